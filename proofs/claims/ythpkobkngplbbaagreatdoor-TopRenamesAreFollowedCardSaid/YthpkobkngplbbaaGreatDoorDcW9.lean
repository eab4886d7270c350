/- Walks: each function comes to what its model says. -/
import Derived.Test.YthpkobkngplbbaaGreatDoorDcTab
import Derived.Test.YthpkobkngplbbaaGreatDoorDcM
import Derived.Test.YthpkobkngplbbaaGreatDoorDcW4
import Derived.Test.YthpkobkngplbbaaGreatDoorDcW6
import Derived.Test.YthpkobkngplbbaaGreatDoorDcW7
import Derived.Test.YthpkobkngplbbaaGreatDoorDcW8
namespace Go.Dc
open Go Go.Proofs
set_option maxRecDepth 100000
set_option maxHeartbeats 4000000
set_option linter.unusedVariables false
theorem treecommute_Commute_ok {g : Gh} {fr : Hl} {w : World} {r : TreeChange × TreeChange × Bool × Fault} (a_ : TreeChange) (va_1 : Value) (ha_1 : RepSl g a_.Lines va_1) (va_2 : Value) (ha_2 : RepSl g a_.Patch.Hunks va_2) (b_ : TreeChange) (vb_1 : Value) (hb_1 : RepSl g b_.Lines vb_1) (vb_2 : Value) (hb_2 : RepSl g b_.Patch.Hunks vb_2) (S : St g [] fr w) (hm : treecommute_Commute a_ b_ = some r) :
  Calls Tryz.prog 8 [.agg #[.i6 a_.Kind, .string a_.Path, .string a_.To, va_1, va_2], .agg #[.i6 b_.Kind, .string b_.Path, .string b_.To, vb_1, vb_2]].toArray w (fun en w' => ∃ v, en = .returned v ∧ ∃ (g' : Gh) (v1 v2 v3 v4 : Value), Le g g' ∧ St g' [] fr w' ∧ RepSl g' r.1.Lines v1 ∧ RepSl g' r.1.Patch.Hunks v2 ∧ RepSl g' r.2.1.Lines v3 ∧ RepSl g' r.2.1.Patch.Hunks v4 ∧ .tuple #[.agg #[.i6 r.1.Kind, .string r.1.Path, .string r.1.To, v1, v2], .agg #[.i6 r.2.1.Kind, .string r.2.1.Path, .string r.2.1.To, v3, v4], .bool r.2.2.1, .agg #[.i6 r.2.2.2.Code, .i6 r.2.2.2.Index]] = v) := by
 unfold treecommute_Commute at hm
 refine calls_enter (fn := Tryz.f8) Tryz.func8 rfl Tryz.ntmps8 (lb rfl) ?_
 intro a F
 replace F : Fr 145 a [(0, .agg #[.i6 a_.Kind, .string a_.Path, .string a_.To, va_1, va_2]), (1, .agg #[.i6 b_.Kind, .string b_.Path, .string b_.To, vb_1, vb_2])] := F
 refine wp_seq ?_
 refine wp_region_lit ?_
 refine wl_boxC (wn rfl) rfl rfl rfl F S rfl rfl ?_; clear F a S; rintro b1 a w F S
 refine wl_boxC (wn rfl) rfl rfl rfl F S rfl rfl ?_; clear F a S; rintro b2 a w F S
 refine wl_alloc (wn rfl) rfl tz30 (cs := [.i6 0, .string ByteArray.empty, .string ByteArray.empty, nilS, nilS]) rfl F S rfl rfl ?_; clear F a S; rintro b3 a w F S
 refine wl_alloc (wn rfl) rfl tz30 (cs := [.i6 0, .string ByteArray.empty, .string ByteArray.empty, nilS, nilS]) rfl F S rfl rfl ?_; clear F a S; rintro b4 a w F S
 refine wE (ev_assign rfl) F S rfl fun a F=>?_
 refine wl_alloc (wn rfl) rfl tz32 (cs := [.i6 0, .i6 0]) rfl F S rfl rfl ?_; clear F a S; rintro b5 a w F S
 refine wpList_nil ?_
 refine then_n ?_
 refine wp_seq ?_
 refine wp_region_lit ?_
 refine wl_alloc (wn rfl) rfl tz30 (cs := [.i6 0, .string ByteArray.empty, .string ByteArray.empty, nilS, nilS]) rfl F S rfl rfl ?_; clear F a S; rintro b6 a w F S
 refine wpList_nil ?_
 refine then_n ?_
 refine wp_cut (fun a w => ∃ (g1 : Gh), Fr 145 a [(8, bp b6 0), (7, bp b5 0), (5, bp b4 0), (4, bp b3 0), (3, bp b2 0), (2, bp b1 0)] ∧ Le g g1 ∧ St g1 [[bx b6 #[.i6 0, .string ByteArray.empty, .string ByteArray.empty, nilS, nilS] 30], [bx b5 #[.i6 0, .i6 0] 32], [bx b4 #[.i6 0, .string ByteArray.empty, .string ByteArray.empty, nilS, nilS] 30], [bx b3 #[.i6 0, .string ByteArray.empty, .string ByteArray.empty, nilS, nilS] 30], [bx b2 #[.i6 b_.Kind, .string b_.Path, .string b_.To, vb_1, vb_2] 30], [bx b1 #[.i6 a_.Kind, .string a_.Path, .string a_.To, va_1, va_2] 30]] fr w ∧ treecommute_Commute.j1 a_ b_ = some r) ?_ ?_
 ·refine wp_seq ?_
  refine wp_region_lit ?_
  refine wE (ev_loadA tu30 rfl (cs := [.i6 a_.Kind, .string a_.Path, .string a_.To, va_1, va_2]) ts30 rfl (box_ptr (cells := [.i6 a_.Kind, .string a_.Path, .string a_.To, va_1, va_2]) 5 rfl 0 rfl (lb rfl))) F S rfl fun a F=>?_
  refine wE (ev_loadA tu30 rfl (cs := [.i6 b_.Kind, .string b_.Path, .string b_.To, vb_1, vb_2]) ts30 rfl (box_ptr (cells := [.i6 b_.Kind, .string b_.Path, .string b_.To, vb_1, vb_2]) 4 rfl 0 rfl (lb rfl))) F S rfl fun a F=>?_
  refine wl_lit (l := ([a_, b_] : List TreeChange)) (vs := [.agg #[.i6 a_.Kind, .string a_.Path, .string a_.To, va_1, va_2], .agg #[.i6 b_.Kind, .string b_.Path, .string b_.To, vb_1, vb_2]]) (parts := [(0, .tmp 18), (1, .tmp 19)]) (wn rfl) rfl rfl rfl tu35 te30 (sz_cons rfl (sz_cons rfl sz_nil)) rfl (Cat.cons (rep_TreeChange_mk (x := a_) ha_1 ha_2) (Cat.cons (rep_TreeChange_mk (x := b_) hb_1 hb_2) (Cat.nil _))) (coa_cons rfl (coa_cons rfl coa_nil)) rfl F S rfl rfl ?_; clear F a S
  rintro v15 c5 a w h19 F S
  refine wE (ev_lenOw h19 rfl tu35) F S rfl fun a F=>?_
  refine wE (ev_move rfl) F S rfl fun a F=>?_
  refine wpList_nil ?_
  refine then_n ?_
  refine wp_block ?_
  obtain ⟨r1, hr1, hm⟩ := bind_some hm
  have hmo1 := hm; clear hm
  refine wp_iter (σ := Int) (ρ := (TreeChange × TreeChange × Bool × Fault) ⊕ Unit) (m := fun s => treecommute_Commute.l1 a_ b_ s) (I := fun x7 a w => ∃ (g14 : Gh), Fr 145 a [(22, .i6 x7), (21, .i6 (([a_, b_] : List TreeChange).length : Int)), (20, v15), (8, bp b6 0), (7, bp b5 0), (5, bp b4 0), (4, bp b3 0), (3, bp b2 0), (2, bp b1 0)] ∧ Le g g14 ∧ St g14 [c5, [bx b6 #[.i6 0, .string ByteArray.empty, .string ByteArray.empty, nilS, nilS] 30], [bx b5 #[.i6 0, .i6 0] 32], [bx b4 #[.i6 0, .string ByteArray.empty, .string ByteArray.empty, nilS, nilS] 30], [bx b3 #[.i6 0, .string ByteArray.empty, .string ByteArray.empty, nilS, nilS] 30], [bx b2 #[.i6 b_.Kind, .string b_.Path, .string b_.To, vb_1, vb_2] 30], [bx b1 #[.i6 a_.Kind, .string a_.Path, .string a_.To, va_1, va_2] 30]] fr w) hr1 ?_ ?_
  ·exact ⟨g, F.sub ⟨rfl, rfl, rfl, rfl, rfl, rfl, rfl, rfl, rfl, trivial⟩, (Le.refl _), S⟩
  ·clear F S; rintro x7 a w x8 ⟨g14, F, l14, S⟩ hx7 hfin1
   have hm : treecommute_Commute.l1 a_ b_ x7 = some x8 := hx7; clear hx7
   unfold treecommute_Commute.l1 at hm
   refine wp_seq ?_
   refine wp_region_lit ?_
   refine wE (ev_int rfl rfl (bo_lss _ _ _ _)) F S rfl fun a F=>?_
   refine wpList_nil ?_
   refine then_n ?_
   refine wp_seq ?_
   obtain ⟨hc13, hm⟩ | ⟨hc13, hm⟩ := ite_or hm
   ·refine wp_condT F rfl hc13 ?_
    refine wp_skip ?_
    refine then_n ?_
    refine wp_seq ?_
    refine wp_block ?_
    refine wp_seq ?_
    refine wp_region_lit ?_
    refine wE (ev_move rfl) F S rfl fun a F=>?_
    obtain ⟨y9, hy9, hm⟩ := bind_some hm
    refine wE (ev_idxO (h19.mono l14) hy9 tu35 ts30 rfl rfl) F S rfl fun a F=>?_
    obtain ⟨cs1, hr2, hq1⟩ := elemO (h19.mono l14) hy9
    obtain ⟨v16, v17, rfl, h20, h21⟩ := rep_TreeChange hr2
    refine wE (ev_loadA tu30 rfl (cs := [.i6 y9.Kind, .string y9.Path, .string y9.To, v16, v17]) ts30 rfl (hq1 _ _ 0 rfl)) F S rfl fun a F=>?_
    refine wl_alloc (wn rfl) rfl tz30 (cs := [.i6 0, .string ByteArray.empty, .string ByteArray.empty, nilS, nilS]) rfl F S rfl rfl ?_; clear F a S; rintro b10 a w F S
    refine wE (ev_assign rfl) F S rfl fun a F=>?_
    refine wl_storeC (wn rfl) rfl F S rfl rfl (vs := [.i6 y9.Kind, .string y9.Path, .string y9.To, v16, v17]) rfl ts30 (one_cons rfl (one_cons rfl (one_cons rfl (one_cons h20.one (one_cons h21.one one_nil))))) (k := 0) rfl (lb rfl) (c' := #[.i6 y9.Kind, .string y9.Path, .string y9.To, v16, v17]) rfl rfl ?_; clear S; intro w S
    refine wpList_nil ?_
    refine then_n ?_
    refine wp_seq ?_
    refine wp_region_lit ?_
    refine wE (ev_loadA tu30 rfl (cs := [.i6 y9.Kind, .string y9.Path, .string y9.To, v16, v17]) ts30 rfl (box_ptr (cells := [.i6 y9.Kind, .string y9.Path, .string y9.To, v16, v17]) 0 rfl 0 rfl (lb rfl))) F S rfl fun a F=>?_
    refine wl_lit (l := ([y9] : List TreeChange)) (vs := [.agg #[.i6 y9.Kind, .string y9.Path, .string y9.To, v16, v17]]) (parts := [(0, .tmp 27)]) (wn rfl) rfl rfl rfl tu35 te30 (sz_cons rfl sz_nil) rfl (Cat.cons (rep_TreeChange_mk (x := y9) h20 h21) (Cat.nil _)) (coa_cons rfl coa_nil) rfl F S rfl rfl ?_; clear F a S
    rintro v18 c6 a w h22 F S
    refine wE (ev_build (parts := [(0, .tmp 28)]) (vs := [(0, v18)]) rfl (fun w => tb37_0 v18 (OwnS.isSl h22) w)) F S rfl fun a F=>?_
    refine wE (ev_move rfl) F S rfl fun a F=>?_
    obtain ⟨g15, l15, S, h23⟩ : ∃ gz, Le g14 gz ∧ St gz [[bx b10 #[.i6 y9.Kind, .string y9.Path, .string y9.To, v16, v17] 30], c5, [bx b6 #[.i6 0, .string ByteArray.empty, .string ByteArray.empty, nilS, nilS] 30], [bx b5 #[.i6 0, .i6 0] 32], [bx b4 #[.i6 0, .string ByteArray.empty, .string ByteArray.empty, nilS, nilS] 30], [bx b3 #[.i6 0, .string ByteArray.empty, .string ByteArray.empty, nilS, nilS] 30], [bx b2 #[.i6 b_.Kind, .string b_.Path, .string b_.To, vb_1, vb_2] 30], [bx b1 #[.i6 a_.Kind, .string a_.Path, .string a_.To, va_1, va_2] 30]] fr w ∧ RepSl gz ([y9] : List TreeChange) v18 := ⟨_, Le.add _ _, S.freeze 0 rfl, OwnS.freeze (S.front 0 rfl) h22⟩
    obtain ⟨y10, hy10, hm⟩ := bind_some hm
    refine wl_call0 (wn rfl) rfl F rfl (treepatch_SecondPatch_ok (fr := (fl [[bx b10 #[.i6 y9.Kind, .string y9.Path, .string y9.To, v16, v17] 30], c5, [bx b6 #[.i6 0, .string ByteArray.empty, .string ByteArray.empty, nilS, nilS] 30], [bx b5 #[.i6 0, .i6 0] 32], [bx b4 #[.i6 0, .string ByteArray.empty, .string ByteArray.empty, nilS, nilS] 30], [bx b3 #[.i6 0, .string ByteArray.empty, .string ByteArray.empty, nilS, nilS] 30], [bx b2 #[.i6 b_.Kind, .string b_.Path, .string b_.To, vb_1, vb_2] 30], [bx b1 #[.i6 a_.Kind, .string a_.Path, .string a_.To, va_1, va_2] 30]] fr)) ({ Changes := ([y9] : List TreeChange) } : TreePatch) v18 h23 x7 S hy10) rfl tc37 rfl rfl ?_; clear F a S
    rintro _ a w ⟨g16, l16, S, rfl⟩ F; replace S : St g16 [[bx b10 #[.i6 y9.Kind, .string y9.Path, .string y9.To, v16, v17] 30], c5, [bx b6 #[.i6 0, .string ByteArray.empty, .string ByteArray.empty, nilS, nilS] 30], [bx b5 #[.i6 0, .i6 0] 32], [bx b4 #[.i6 0, .string ByteArray.empty, .string ByteArray.empty, nilS, nilS] 30], [bx b3 #[.i6 0, .string ByteArray.empty, .string ByteArray.empty, nilS, nilS] 30], [bx b2 #[.i6 b_.Kind, .string b_.Path, .string b_.To, vb_1, vb_2] 30], [bx b1 #[.i6 a_.Kind, .string a_.Path, .string a_.To, va_1, va_2] 30]] fr w := S
    refine wl_alloc (wn rfl) rfl tz32 (cs := [.i6 0, .i6 0]) rfl F S rfl rfl ?_; clear F a S; rintro b11 a w F S
    refine wl_storeC (wn rfl) rfl F S rfl rfl (vs := [.i6 y10.Code, .i6 y10.Index]) rfl ts32 (one_cons rfl (one_cons rfl one_nil)) (k := 0) rfl (lb rfl) (c' := #[.i6 y10.Code, .i6 y10.Index]) rfl rfl ?_; clear S; intro w S
    refine wpList_nil ?_
    refine then_n ?_
    refine wp_seq ?_
    refine wp_region_lit ?_
    refine wE (ev_loadA tu32 rfl (cs := [.i6 y10.Code, .i6 y10.Index]) ts32 rfl (box_ptr (cells := [.i6 y10.Code, .i6 y10.Index]) 0 rfl 0 rfl (lb rfl))) F S rfl fun a F=>?_
    refine wE (ev_build (parts := []) (vs := []) rfl (fun w => tb32_  w)) F S rfl fun a F=>?_
    refine wE (ev_neS tu32 tqa32 tqb32 tqc32 (xs := [.i6 y10.Code, .i6 y10.Index]) (ys := [.i6 0, .i6 0]) rfl rfl ⟨_, _, rfl, by decide, ⟨_, _, rfl, rfl, leaf_int tu3⟩, ⟨_, _, rfl, by decide, ⟨_, _, rfl, rfl, leaf_int tu3⟩, rfl⟩⟩) F S rfl fun a F=>?_
    refine wpList_nil ?_
    refine then_n ?_
    obtain ⟨hc14, hm⟩ | ⟨hc14, hm⟩ := ite_or hm
    ·refine wp_condT F rfl hc14 ?_
     refine wp_seq ?_
     refine wp_dv [] mo S ?_; clear S; intro ok9 w S
     refine dv_ev ok9 0 rfl (ev_loadA tu30 rfl (cs := [.i6 0, .string ByteArray.empty, .string ByteArray.empty, nilS, nilS]) ts30 rfl (box_ptr (cells := [.i6 0, .string ByteArray.empty, .string ByteArray.empty, nilS, nilS]) 3 rfl 0 rfl (lb rfl))) F S rfl fun a F=>?_
     refine dv_ev ok9 1 rfl (ev_loadA tu30 rfl (cs := [.i6 0, .string ByteArray.empty, .string ByteArray.empty, nilS, nilS]) ts30 rfl (box_ptr (cells := [.i6 0, .string ByteArray.empty, .string ByteArray.empty, nilS, nilS]) 3 rfl 0 rfl (lb rfl))) F S rfl fun a F=>?_
     refine dv_ev ok9 2 rfl (ev_loadA tu32 rfl (cs := [.i6 y10.Code, .i6 y10.Index]) ts32 rfl (box_ptr (cells := [.i6 y10.Code, .i6 y10.Index]) 0 rfl 0 rfl (lb rfl))) F S rfl fun a F=>?_
     refine dv_op ok9 3 rfl [(2, .agg #[.i6 y10.Code, .i6 y10.Index]), (1, .agg #[.i6 0, .string ByteArray.empty, .string ByteArray.empty, nilS, nilS])] ?_
     refine wl_storeC (wn rfl) rfl F S rfl rfl (vs := [.i6 0, .string ByteArray.empty, .string ByteArray.empty, nilS, nilS]) rfl ts30 (one_cons rfl (one_cons rfl (one_cons rfl (one_cons rfl (one_cons rfl one_nil))))) (k := 6) rfl (lb rfl) (c' := #[.i6 0, .string ByteArray.empty, .string ByteArray.empty, nilS, nilS]) rfl rfl ?_; clear S; intro w S
     refine dv_nx ⟨yl_ev rfl rfl (ev_loadA tu32 rfl (cs := [.i6 y10.Code, .i6 y10.Index]) ts32 rfl (box_ptr (cells := [.i6 y10.Code, .i6 y10.Index]) 0 rfl 0 rfl (lb rfl))) F S, yl_ev rfl rfl (ev_loadA tu30 rfl (cs := [.i6 0, .string ByteArray.empty, .string ByteArray.empty, nilS, nilS]) ts30 rfl (box_ptr (cells := [.i6 0, .string ByteArray.empty, .string ByteArray.empty, nilS, nilS]) 3 rfl 0 rfl (lb rfl))) F S, trivial⟩ ?_
     refine dv_op ok9 4 rfl [(2, .agg #[.i6 y10.Code, .i6 y10.Index])] ?_
     refine wl_storeC (wn rfl) rfl F S rfl rfl (vs := [.i6 0, .string ByteArray.empty, .string ByteArray.empty, nilS, nilS]) rfl ts30 (one_cons rfl (one_cons rfl (one_cons rfl (one_cons rfl (one_cons rfl one_nil))))) (k := 5) rfl (lb rfl) (c' := #[.i6 0, .string ByteArray.empty, .string ByteArray.empty, nilS, nilS]) rfl rfl ?_; clear S; intro w S
     refine dv_nx ⟨yl_ev rfl rfl (ev_loadA tu32 rfl (cs := [.i6 y10.Code, .i6 y10.Index]) ts32 rfl (box_ptr (cells := [.i6 y10.Code, .i6 y10.Index]) 0 rfl 0 rfl (lb rfl))) F S, trivial⟩ ?_
     refine dv_et ok9 5 rfl (ev_assign rfl) F rfl fun a F=>?_
     refine dv_op ok9 6 rfl [] ?_
     refine wl_storeC (wn rfl) rfl F S rfl rfl (vs := [.i6 y10.Code, .i6 y10.Index]) rfl ts32 (one_cons rfl (one_cons rfl one_nil)) (k := 4) rfl (lb rfl) (c' := #[.i6 y10.Code, .i6 y10.Index]) rfl rfl ?_; clear S; intro w S
     refine dv_nx trivial ?_
     refine dv_fin ok9 ?_
     refine then_n ?_
     refine wp_ret ?_
     refine inb_r ?_
     refine then_r ?_
     refine then_r ?_
     refine inb_r ?_
     refine then_r ?_
     obtain rfl := sinj hm
     obtain rfl := hfin1 _ rfl
     clear hm
     have hm : (some (({ Kind := 0, Path := ByteArray.empty, To := ByteArray.empty, Lines := [], Patch := ({ Hunks := [] } : Patch) } : TreeChange), ({ Kind := 0, Path := ByteArray.empty, To := ByteArray.empty, Lines := [], Patch := ({ Hunks := [] } : Patch) } : TreeChange), false, y10) : Option (TreeChange × TreeChange × Bool × Fault)) = some _ := hmo1
     obtain rfl := sinj hm
     refine post_r _ F rfl (ar_cons (resA rfl tu30 rfl (box_ptr (cells := [.i6 0, .string ByteArray.empty, .string ByteArray.empty, nilS, nilS]) 6 rfl 0 rfl (lb rfl) w S) ts30) (ar_cons (resA rfl tu30 rfl (box_ptr (cells := [.i6 0, .string ByteArray.empty, .string ByteArray.empty, nilS, nilS]) 5 rfl 0 rfl (lb rfl) w S) ts30) (ar_cons (resT rfl) (ar_cons (resA rfl tu32 rfl (box_ptr (cells := [.i6 y10.Code, .i6 y10.Index]) 4 rfl 0 rfl (lb rfl) w S) ts32) ar_nil)))) ?_
     replace S : St g16 [] fr w := St.tail [] _ S
     exact ⟨_, rfl, g16, (nilS), (nilS), (nilS), (nilS), ((l14.trans l15).trans l16), S, (RepSl.nil _), (RepSl.nil _), (RepSl.nil _), (RepSl.nil _), rfl⟩
    ·refine wp_condF F rfl hc14 ?_
     refine wp_skip ?_
     refine inb_n ?_
     refine then_n ?_
     refine wp_region_lit ?_
     obtain ⟨z1, hz1, hm⟩ := bind_some hm
     refine wE (ev_int rfl rfl (bo_add hz1)) F S rfl fun a F=>?_
     refine wE (ev_move rfl) F S rfl fun a F=>?_
     refine wpList_nil ?_
     refine then_n ?_
     obtain rfl := sinj hm
     refine ⟨_, rfl, ?_⟩
     replace S : St g16 [c5, [bx b6 #[.i6 0, .string ByteArray.empty, .string ByteArray.empty, nilS, nilS] 30], [bx b5 #[.i6 0, .i6 0] 32], [bx b4 #[.i6 0, .string ByteArray.empty, .string ByteArray.empty, nilS, nilS] 30], [bx b3 #[.i6 0, .string ByteArray.empty, .string ByteArray.empty, nilS, nilS] 30], [bx b2 #[.i6 b_.Kind, .string b_.Path, .string b_.To, vb_1, vb_2] 30], [bx b1 #[.i6 a_.Kind, .string a_.Path, .string a_.To, va_1, va_2] 30]] fr w := St.tail [c5, [bx b6 #[.i6 0, .string ByteArray.empty, .string ByteArray.empty, nilS, nilS] 30], [bx b5 #[.i6 0, .i6 0] 32], [bx b4 #[.i6 0, .string ByteArray.empty, .string ByteArray.empty, nilS, nilS] 30], [bx b3 #[.i6 0, .string ByteArray.empty, .string ByteArray.empty, nilS, nilS] 30], [bx b2 #[.i6 b_.Kind, .string b_.Path, .string b_.To, vb_1, vb_2] 30], [bx b1 #[.i6 a_.Kind, .string a_.Path, .string a_.To, va_1, va_2] 30]] _ (((((((S.frontC 8 rfl).frontC 8 rfl).frontC 8 rfl).frontC 8 rfl).frontC 8 rfl).frontC 8 rfl).frontC 8 rfl)
     exact ⟨g16, F.sub ⟨rfl, rfl, rfl, rfl, rfl, rfl, rfl, rfl, rfl, trivial⟩, ((l14.trans l15).trans l16), S⟩
   ·refine wp_condF F rfl hc13 ?_
    refine wp_exit ?_
    refine then_e ?_
    refine then_e ?_
    refine inb_x ?_
    refine then_n ?_
    obtain rfl := sinj hm
    obtain rfl := hfin1 _ rfl
    clear hm
    have hm : (treecommute_Commute.j1 a_ b_ : Option (TreeChange × TreeChange × Bool × Fault)) = some _ := hmo1
    replace S : St g14 [[bx b6 #[.i6 0, .string ByteArray.empty, .string ByteArray.empty, nilS, nilS] 30], [bx b5 #[.i6 0, .i6 0] 32], [bx b4 #[.i6 0, .string ByteArray.empty, .string ByteArray.empty, nilS, nilS] 30], [bx b3 #[.i6 0, .string ByteArray.empty, .string ByteArray.empty, nilS, nilS] 30], [bx b2 #[.i6 b_.Kind, .string b_.Path, .string b_.To, vb_1, vb_2] 30], [bx b1 #[.i6 a_.Kind, .string a_.Path, .string a_.To, va_1, va_2] 30]] fr w := St.tail [[bx b6 #[.i6 0, .string ByteArray.empty, .string ByteArray.empty, nilS, nilS] 30], [bx b5 #[.i6 0, .i6 0] 32], [bx b4 #[.i6 0, .string ByteArray.empty, .string ByteArray.empty, nilS, nilS] 30], [bx b3 #[.i6 0, .string ByteArray.empty, .string ByteArray.empty, nilS, nilS] 30], [bx b2 #[.i6 b_.Kind, .string b_.Path, .string b_.To, vb_1, vb_2] 30], [bx b1 #[.i6 a_.Kind, .string a_.Path, .string a_.To, va_1, va_2] 30]] _ ((((((S.frontC 6 rfl).frontC 6 rfl).frontC 6 rfl).frontC 6 rfl).frontC 6 rfl).frontC 6 rfl)
    exact ⟨g14, F.sub ⟨rfl, rfl, rfl, rfl, rfl, rfl, trivial⟩, l14, S, hm⟩
 ·clear F S hm; rintro a w ⟨g1, F, l1, S, hm⟩
  refine wp_seq ?_
  refine wp_dv [] mo S ?_; clear S; intro ok1 w S
  refine dv_ev ok1 0 rfl (ev_loadA tu30 rfl (cs := [.i6 a_.Kind, .string a_.Path, .string a_.To, va_1, va_2]) ts30 rfl (box_ptr (cells := [.i6 a_.Kind, .string a_.Path, .string a_.To, va_1, va_2]) 5 rfl 0 rfl (lb rfl))) F S rfl fun a F=>?_
  refine dv_ev ok1 2 rfl (ev_loadA tu30 rfl (cs := [.i6 b_.Kind, .string b_.Path, .string b_.To, vb_1, vb_2]) ts30 rfl (box_ptr (cells := [.i6 b_.Kind, .string b_.Path, .string b_.To, vb_1, vb_2]) 4 rfl 0 rfl (lb rfl))) F S rfl fun a F=>?_
  refine dv_op ok1 1 rfl [(2, .agg #[.i6 b_.Kind, .string b_.Path, .string b_.To, vb_1, vb_2])] ?_
  obtain ⟨y1, hy1, hm⟩ := bind_some hm
  refine wl_call0 (wn rfl) rfl F rfl (treepatch_CopyChange_ok (fr := (fl [[bx b6 #[.i6 0, .string ByteArray.empty, .string ByteArray.empty, nilS, nilS] 30], [bx b5 #[.i6 0, .i6 0] 32], [bx b4 #[.i6 0, .string ByteArray.empty, .string ByteArray.empty, nilS, nilS] 30], [bx b3 #[.i6 0, .string ByteArray.empty, .string ByteArray.empty, nilS, nilS] 30], [bx b2 #[.i6 b_.Kind, .string b_.Path, .string b_.To, vb_1, vb_2] 30], [bx b1 #[.i6 a_.Kind, .string a_.Path, .string a_.To, va_1, va_2] 30]] fr)) a_ va_1 (ha_1.mono l1) va_2 (ha_2.mono l1) S hy1) rfl tc38 rfl rfl ?_; clear F a S
  rintro _ a w ⟨g2, v1, v2, c1, c2, l2, S, h1, h2, rfl⟩ F; replace S : St g2 [c1, c2, [bx b6 #[.i6 0, .string ByteArray.empty, .string ByteArray.empty, nilS, nilS] 30], [bx b5 #[.i6 0, .i6 0] 32], [bx b4 #[.i6 0, .string ByteArray.empty, .string ByteArray.empty, nilS, nilS] 30], [bx b3 #[.i6 0, .string ByteArray.empty, .string ByteArray.empty, nilS, nilS] 30], [bx b2 #[.i6 b_.Kind, .string b_.Path, .string b_.To, vb_1, vb_2] 30], [bx b1 #[.i6 a_.Kind, .string a_.Path, .string a_.To, va_1, va_2] 30]] fr w := S
  refine dv_nx ⟨yl_ev rfl rfl (ev_loadA tu30 rfl (cs := [.i6 b_.Kind, .string b_.Path, .string b_.To, vb_1, vb_2]) ts30 rfl (box_ptr (cells := [.i6 b_.Kind, .string b_.Path, .string b_.To, vb_1, vb_2]) 6 rfl 0 rfl (lb rfl))) F S, trivial⟩ ?_
  refine dv_op ok1 3 rfl [] ?_
  obtain ⟨y2, hy2, hm⟩ := bind_some hm
  refine wl_call0 (wn rfl) rfl F rfl (treepatch_CopyChange_ok (fr := (fl [c1, c2, [bx b6 #[.i6 0, .string ByteArray.empty, .string ByteArray.empty, nilS, nilS] 30], [bx b5 #[.i6 0, .i6 0] 32], [bx b4 #[.i6 0, .string ByteArray.empty, .string ByteArray.empty, nilS, nilS] 30], [bx b3 #[.i6 0, .string ByteArray.empty, .string ByteArray.empty, nilS, nilS] 30], [bx b2 #[.i6 b_.Kind, .string b_.Path, .string b_.To, vb_1, vb_2] 30], [bx b1 #[.i6 a_.Kind, .string a_.Path, .string a_.To, va_1, va_2] 30]] fr)) b_ vb_1 (hb_1.mono (l1.trans l2)) vb_2 (hb_2.mono (l1.trans l2)) S hy2) rfl tc38 rfl rfl ?_; clear F a S
  rintro _ a w ⟨g3, v3, v4, c3, c4, l3, S, h3, h4, rfl⟩ F; replace S : St g3 [c3, c4, c1, c2, [bx b6 #[.i6 0, .string ByteArray.empty, .string ByteArray.empty, nilS, nilS] 30], [bx b5 #[.i6 0, .i6 0] 32], [bx b4 #[.i6 0, .string ByteArray.empty, .string ByteArray.empty, nilS, nilS] 30], [bx b3 #[.i6 0, .string ByteArray.empty, .string ByteArray.empty, nilS, nilS] 30], [bx b2 #[.i6 b_.Kind, .string b_.Path, .string b_.To, vb_1, vb_2] 30], [bx b1 #[.i6 a_.Kind, .string a_.Path, .string a_.To, va_1, va_2] 30]] fr w := S
  refine dv_nx trivial ?_
  refine dv_op ok1 4 rfl [] ?_
  refine wl_storeC (wn rfl) rfl F S rfl rfl (vs := [.i6 y1.Kind, .string y1.Path, .string y1.To, v1, v2]) rfl ts30 (one_cons rfl (one_cons rfl (one_cons rfl (one_cons (OwnS.one h1) (one_cons (OwnS.one h2) one_nil))))) (k := 9) rfl (lb rfl) (c' := #[.i6 y1.Kind, .string y1.Path, .string y1.To, v1, v2]) rfl rfl ?_; clear S; intro w S
  refine dv_nx trivial ?_
  refine dv_op ok1 5 rfl [] ?_
  refine wl_storeC (wn rfl) rfl F S rfl rfl (vs := [.i6 y2.Kind, .string y2.Path, .string y2.To, v3, v4]) rfl ts30 (one_cons rfl (one_cons rfl (one_cons rfl (one_cons (OwnS.one h3) (one_cons (OwnS.one h4) one_nil))))) (k := 8) rfl (lb rfl) (c' := #[.i6 y2.Kind, .string y2.Path, .string y2.To, v3, v4]) rfl rfl ?_; clear S; intro w S
  refine dv_nx trivial ?_
  refine dv_fin ok1 ?_
  refine then_n ?_
  refine wp_seq ?_
  refine wp_quiet mo (by kernel_rfl) S ?_
  refine wq_ev (wn rfl) (ev_fieldAddr' tu30 tf30_0 (z := 0) ts3 rfl ⟨_, rfl⟩ rfl) F rfl rfl ?_; clear F a; intro a F
  refine wq_ev (wn rfl) (ev_load1 tu3 rfl rfl (box_ptr (cells := [.i6 y1.Kind]) 9 rfl 0 rfl (lb rfl))) F rfl rfl ?_; clear F a; intro a F
  refine wq_ev (wn rfl) (ev_int rfl rfl (bo_eql _ _ _ _)) F rfl rfl ?_; clear F a; intro a F
  refine wq_ev (wn rfl) (ev_fieldAddr' tu30 tf30_0 (z := 0) ts3 rfl ⟨_, rfl⟩ rfl) F rfl rfl ?_; clear F a; intro a F
  refine wq_ev (wn rfl) (ev_load1 tu3 rfl rfl (box_ptr (cells := [.i6 y2.Kind]) 8 rfl 0 rfl (lb rfl))) F rfl rfl ?_; clear F a; intro a F
  refine wq_ev (wn rfl) (ev_int rfl rfl (bo_eql _ _ _ _)) F rfl rfl ?_; clear F a; intro a F
  refine wq_ev (wn rfl) (ev_assign rfl) F rfl rfl ?_; clear F a; intro a F
  refine wq_ev (wn rfl) (ev_assign rfl) F rfl rfl ?_; clear F a; intro a F
  refine wq_nil ?_; clear S; intro w S
  refine then_n ?_
  refine wp_seq ?_
  refine wp_block ?_
  refine wp_seq ?_
  refine wp_region_lit ?_
  refine wE (ev_loadA tu30 rfl (cs := [.i6 y1.Kind, .string y1.Path, .string y1.To, v1, v2]) ts30 rfl (box_ptr (cells := [.i6 y1.Kind, .string y1.Path, .string y1.To, v1, v2]) 9 rfl 0 rfl (lb rfl))) F S rfl fun a F=>?_
  refine wE (ev_loadA tu30 rfl (cs := [.i6 y2.Kind, .string y2.Path, .string y2.To, v3, v4]) ts30 rfl (box_ptr (cells := [.i6 y2.Kind, .string y2.Path, .string y2.To, v3, v4]) 8 rfl 0 rfl (lb rfl))) F S rfl fun a F=>?_
  obtain ⟨g4, l4, S, h5⟩ : ∃ gz, Le g3 gz ∧ St gz [c3, c4, c2, [bx b6 #[.i6 0, .string ByteArray.empty, .string ByteArray.empty, nilS, nilS] 30], [bx b5 #[.i6 0, .i6 0] 32], [bx b4 #[.i6 0, .string ByteArray.empty, .string ByteArray.empty, nilS, nilS] 30], [bx b3 #[.i6 0, .string ByteArray.empty, .string ByteArray.empty, nilS, nilS] 30], [bx b2 #[.i6 y2.Kind, .string y2.Path, .string y2.To, v3, v4] 30], [bx b1 #[.i6 y1.Kind, .string y1.Path, .string y1.To, v1, v2] 30]] fr w ∧ RepSl gz y1.Lines v1 := ⟨_, Le.add _ _, S.freeze 2 rfl, OwnS.freeze (S.front 2 rfl) (h1.mono l3)⟩
  obtain ⟨g5, l5, S, h6⟩ : ∃ gz, Le g4 gz ∧ St gz [c3, c4, [bx b6 #[.i6 0, .string ByteArray.empty, .string ByteArray.empty, nilS, nilS] 30], [bx b5 #[.i6 0, .i6 0] 32], [bx b4 #[.i6 0, .string ByteArray.empty, .string ByteArray.empty, nilS, nilS] 30], [bx b3 #[.i6 0, .string ByteArray.empty, .string ByteArray.empty, nilS, nilS] 30], [bx b2 #[.i6 y2.Kind, .string y2.Path, .string y2.To, v3, v4] 30], [bx b1 #[.i6 y1.Kind, .string y1.Path, .string y1.To, v1, v2] 30]] fr w ∧ RepSl gz y1.Patch.Hunks v2 := ⟨_, Le.add _ _, S.freeze 2 rfl, OwnS.freeze (S.front 2 rfl) (h2.mono (l3.trans l4))⟩
  obtain ⟨g6, l6, S, h7⟩ : ∃ gz, Le g5 gz ∧ St gz [c4, [bx b6 #[.i6 0, .string ByteArray.empty, .string ByteArray.empty, nilS, nilS] 30], [bx b5 #[.i6 0, .i6 0] 32], [bx b4 #[.i6 0, .string ByteArray.empty, .string ByteArray.empty, nilS, nilS] 30], [bx b3 #[.i6 0, .string ByteArray.empty, .string ByteArray.empty, nilS, nilS] 30], [bx b2 #[.i6 y2.Kind, .string y2.Path, .string y2.To, v3, v4] 30], [bx b1 #[.i6 y1.Kind, .string y1.Path, .string y1.To, v1, v2] 30]] fr w ∧ RepSl gz y2.Lines v3 := ⟨_, Le.add _ _, S.freeze 0 rfl, OwnS.freeze (S.front 0 rfl) (h3.mono (l4.trans l5))⟩
  obtain ⟨g7, l7, S, h8⟩ : ∃ gz, Le g6 gz ∧ St gz [[bx b6 #[.i6 0, .string ByteArray.empty, .string ByteArray.empty, nilS, nilS] 30], [bx b5 #[.i6 0, .i6 0] 32], [bx b4 #[.i6 0, .string ByteArray.empty, .string ByteArray.empty, nilS, nilS] 30], [bx b3 #[.i6 0, .string ByteArray.empty, .string ByteArray.empty, nilS, nilS] 30], [bx b2 #[.i6 y2.Kind, .string y2.Path, .string y2.To, v3, v4] 30], [bx b1 #[.i6 y1.Kind, .string y1.Path, .string y1.To, v1, v2] 30]] fr w ∧ RepSl gz y2.Patch.Hunks v4 := ⟨_, Le.add _ _, S.freeze 0 rfl, OwnS.freeze (S.front 0 rfl) (h4.mono ((l4.trans l5).trans l6))⟩
  obtain ⟨y3, hy3, hm⟩ := bind_some hm
  refine wl_call0 (wn rfl) rfl F rfl (treecommute_independent_ok (fr := (fl [[bx b6 #[.i6 0, .string ByteArray.empty, .string ByteArray.empty, nilS, nilS] 30], [bx b5 #[.i6 0, .i6 0] 32], [bx b4 #[.i6 0, .string ByteArray.empty, .string ByteArray.empty, nilS, nilS] 30], [bx b3 #[.i6 0, .string ByteArray.empty, .string ByteArray.empty, nilS, nilS] 30], [bx b2 #[.i6 y2.Kind, .string y2.Path, .string y2.To, v3, v4] 30], [bx b1 #[.i6 y1.Kind, .string y1.Path, .string y1.To, v1, v2] 30]] fr)) y1 v1 (h5.mono ((l5.trans l6).trans l7)) v2 (h6.mono (l6.trans l7)) y2 v3 (h7.mono l7) v4 h8 S hy3) rfl tc39 rfl rfl ?_; clear F a S
  rintro _ a w ⟨g8, l8, S, rfl⟩ F; replace S : St g8 [[bx b6 #[.i6 0, .string ByteArray.empty, .string ByteArray.empty, nilS, nilS] 30], [bx b5 #[.i6 0, .i6 0] 32], [bx b4 #[.i6 0, .string ByteArray.empty, .string ByteArray.empty, nilS, nilS] 30], [bx b3 #[.i6 0, .string ByteArray.empty, .string ByteArray.empty, nilS, nilS] 30], [bx b2 #[.i6 y2.Kind, .string y2.Path, .string y2.To, v3, v4] 30], [bx b1 #[.i6 y1.Kind, .string y1.Path, .string y1.To, v1, v2] 30]] fr w := S
  refine wE (ev_assign rfl) F S rfl fun a F=>?_
  refine wpList_nil ?_
  refine then_n ?_
  obtain ⟨hc1, hm⟩ | ⟨hc1, hm⟩ := ite_or hm
  ·refine wp_condT F rfl hc1 ?_
   refine wp_seq ?_
   refine wp_dv [] mo S ?_; clear S; intro ok2 w S
   refine dv_ev ok2 0 rfl (ev_loadA tu30 rfl (cs := [.i6 y2.Kind, .string y2.Path, .string y2.To, v3, v4]) ts30 rfl (box_ptr (cells := [.i6 y2.Kind, .string y2.Path, .string y2.To, v3, v4]) 4 rfl 0 rfl (lb rfl))) F S rfl fun a F=>?_
   refine dv_ev ok2 1 rfl (ev_loadA tu30 rfl (cs := [.i6 y1.Kind, .string y1.Path, .string y1.To, v1, v2]) ts30 rfl (box_ptr (cells := [.i6 y1.Kind, .string y1.Path, .string y1.To, v1, v2]) 5 rfl 0 rfl (lb rfl))) F S rfl fun a F=>?_
   refine dv_et ok2 2 rfl (ev_build (parts := []) (vs := []) rfl (fun w => tb32_  w)) F rfl fun a F=>?_
   refine dv_op ok2 3 rfl [(1, .agg #[.i6 y1.Kind, .string y1.Path, .string y1.To, v1, v2])] ?_
   refine wl_storeC (wn rfl) rfl F S rfl rfl (vs := [.i6 y2.Kind, .string y2.Path, .string y2.To, v3, v4]) rfl ts30 (one_cons rfl (one_cons rfl (one_cons rfl (one_cons h7.one (one_cons h8.one one_nil))))) (k := 3) rfl (lb rfl) (c' := #[.i6 y2.Kind, .string y2.Path, .string y2.To, v3, v4]) rfl rfl ?_; clear S; intro w S
   refine dv_nx ⟨yl_ev rfl rfl (ev_loadA tu30 rfl (cs := [.i6 y1.Kind, .string y1.Path, .string y1.To, v1, v2]) ts30 rfl (box_ptr (cells := [.i6 y1.Kind, .string y1.Path, .string y1.To, v1, v2]) 5 rfl 0 rfl (lb rfl))) F S, trivial⟩ ?_
   refine dv_op ok2 4 rfl [] ?_
   refine wl_storeC (wn rfl) rfl F S rfl rfl (vs := [.i6 y1.Kind, .string y1.Path, .string y1.To, v1, v2]) rfl ts30 (one_cons rfl (one_cons rfl (one_cons rfl (one_cons h5.one (one_cons h6.one one_nil))))) (k := 2) rfl (lb rfl) (c' := #[.i6 y1.Kind, .string y1.Path, .string y1.To, v1, v2]) rfl rfl ?_; clear S; intro w S
   refine dv_nx trivial ?_
   refine dv_et ok2 5 rfl (ev_assign rfl) F rfl fun a F=>?_
   refine dv_op ok2 6 rfl [] ?_
   refine wl_storeC (wn rfl) rfl F S rfl rfl (vs := [.i6 0, .i6 0]) rfl ts32 (one_cons rfl (one_cons rfl one_nil)) (k := 1) rfl (lb rfl) (c' := #[.i6 0, .i6 0]) rfl rfl ?_; clear S; intro w S
   refine dv_nx trivial ?_
   refine dv_fin ok2 ?_
   refine then_n ?_
   refine wp_ret ?_
   refine inb_r ?_
   refine then_r ?_
   obtain rfl := sinj hm
   refine post_r _ F rfl (ar_cons (resA rfl tu30 rfl (box_ptr (cells := [.i6 y2.Kind, .string y2.Path, .string y2.To, v3, v4]) 3 rfl 0 rfl (lb rfl) w S) ts30) (ar_cons (resA rfl tu30 rfl (box_ptr (cells := [.i6 y1.Kind, .string y1.Path, .string y1.To, v1, v2]) 2 rfl 0 rfl (lb rfl) w S) ts30) (ar_cons (resT rfl) (ar_cons (resA rfl tu32 rfl (box_ptr (cells := [.i6 0, .i6 0]) 1 rfl 0 rfl (lb rfl) w S) ts32) ar_nil)))) ?_
   replace S : St g8 [] fr w := St.tail [] _ S
   exact ⟨_, rfl, g8, v3, v4, v1, v2, (((((((l1.trans l2).trans l3).trans l4).trans l5).trans l6).trans l7).trans l8), S, (h7.mono (l7.trans l8)), (h8.mono l8), (h5.mono (((l5.trans l6).trans l7).trans l8)), (h6.mono ((l6.trans l7).trans l8)), rfl⟩
  ·refine wp_condF F rfl hc1 ?_
   refine wp_seq ?_
   refine wp_region_lit ?_
   refine wE (ev_move rfl) F S rfl fun a F=>?_
   refine wE (ev_move rfl) F S rfl fun a F=>?_
   obtain ⟨x1, hx1, hm⟩ := bind_some hm
   refine wl_cut 2 (fun a w' => w = w' ∧ Fr 145 a [(60, .bool x1), (13, .bool (decide (y2.Kind = 4))), (12, .bool (decide (y1.Kind = 4))), (8, bp b6 0), (7, bp b5 0), (5, bp b4 0), (4, bp b3 0), (3, bp b2 0), (2, bp b1 0)]) ?_ ?_
   ·clear hm; obtain ⟨hc2, hm⟩ | ⟨hc2, hm⟩ := ite_or hx1
    ·refine wl_ev (wg F rfl rfl rfl rfl hc2) (ev_move rfl) F S rfl rfl ?_; clear F a; intro a F
     refine wE (ev_pickT rfl hc2 rfl) F S rfl fun a F=>?_
     obtain rfl := sinj hm
     refine wpList_nil (then_n ?_); exact ⟨rfl, F.sub ⟨rfl, rfl, rfl, rfl, rfl, rfl, rfl, rfl, rfl, trivial⟩⟩
    ·refine wl_skip rfl rfl rfl rfl (ne_tf hc2) F rfl rfl ?_; clear F a; intro a F
     refine wE (ev_pickF rfl hc2 rfl) F S rfl fun a F=>?_
     obtain rfl := sinj hm
     refine wpList_nil (then_n ?_); exact ⟨rfl, F.sub ⟨rfl, rfl, rfl, rfl, rfl, rfl, rfl, rfl, rfl, trivial⟩⟩
   clear F; rintro a w' ⟨rfl, F⟩
   refine wE (ev_move rfl) F S rfl fun a F=>?_
   obtain ⟨x2, hx2, hm⟩ := bind_some hm
   refine wl_cut 6 (fun a w' => w = w' ∧ Fr 145 a [(67, .bool x2), (13, .bool (decide (y2.Kind = 4))), (12, .bool (decide (y1.Kind = 4))), (8, bp b6 0), (7, bp b5 0), (5, bp b4 0), (4, bp b3 0), (3, bp b2 0), (2, bp b1 0)]) ?_ ?_
   ·clear hm; obtain ⟨hc3, hm⟩ | ⟨hc3, hm⟩ := ite_or hx2
    ·refine wl_ev (wg F rfl rfl rfl rfl hc3) (ev_fieldAddr' tu30 tf30_1 (z := 0) ts9 rfl ⟨_, rfl⟩ rfl) F S rfl rfl ?_; clear F a; intro a F
     refine wl_ev (wg F rfl rfl rfl rfl hc3) (ev_load1 tu9 rfl rfl (box_ptr (cells := [.string y1.Path]) 5 rfl 1 rfl (lb rfl))) F S rfl rfl ?_; clear F a; intro a F
     refine wl_ev (wg F rfl rfl rfl rfl hc3) (ev_fieldAddr' tu30 tf30_1 (z := 0) ts9 rfl ⟨_, rfl⟩ rfl) F S rfl rfl ?_; clear F a; intro a F
     refine wl_ev (wg F rfl rfl rfl rfl hc3) (ev_load1 tu9 rfl rfl (box_ptr (cells := [.string y2.Path]) 4 rfl 1 rfl (lb rfl))) F S rfl rfl ?_; clear F a; intro a F
     refine wl_ev (wg F rfl rfl rfl rfl hc3) (ev_str rfl rfl (bs_eql _ _ _)) F S rfl rfl ?_; clear F a; intro a F
     refine wE (ev_pickT rfl hc3 rfl) F S rfl fun a F=>?_
     obtain rfl := sinj hm
     refine wpList_nil (then_n ?_); exact ⟨rfl, F.sub ⟨rfl, rfl, rfl, rfl, rfl, rfl, rfl, rfl, rfl, trivial⟩⟩
    ·refine wl_skip rfl rfl rfl rfl (ne_tf hc3) F rfl rfl ?_; clear F a; intro a F
     refine wl_skip rfl rfl rfl rfl (ne_tf hc3) F rfl rfl ?_; clear F a; intro a F
     refine wl_skip rfl rfl rfl rfl (ne_tf hc3) F rfl rfl ?_; clear F a; intro a F
     refine wl_skip rfl rfl rfl rfl (ne_tf hc3) F rfl rfl ?_; clear F a; intro a F
     refine wl_skip rfl rfl rfl rfl (ne_tf hc3) F rfl rfl ?_; clear F a; intro a F
     refine wE (ev_pickF rfl hc3 rfl) F S rfl fun a F=>?_
     obtain rfl := sinj hm
     refine wpList_nil (then_n ?_); exact ⟨rfl, F.sub ⟨rfl, rfl, rfl, rfl, rfl, rfl, rfl, rfl, rfl, trivial⟩⟩
   clear F; rintro a w' ⟨rfl, F⟩
   refine wE (ev_assign rfl) F S rfl fun a F=>?_
   refine wpList_nil ?_
   refine then_n ?_
   obtain ⟨hc4, hm⟩ | ⟨hc4, hm⟩ := ite_or hm
   ·refine wp_condT F rfl hc4 ?_
    refine wp_seq ?_
    refine wp_region_lit ?_
    refine wE (ev_fieldAddr' tu30 tf30_4 (z := 0) ts27 rfl ⟨_, rfl⟩ rfl) F S rfl fun a F=>?_
    refine wE (ev_loadA tu27 rfl (cs := [v2]) ts27 rfl (box_ptr (cells := [v2]) 5 rfl 4 rfl (lb rfl))) F S rfl fun a F=>?_
    refine wE (ev_fieldAddr' tu30 tf30_4 (z := 0) ts27 rfl ⟨_, rfl⟩ rfl) F S rfl fun a F=>?_
    refine wE (ev_loadA tu27 rfl (cs := [v4]) ts27 rfl (box_ptr (cells := [v4]) 4 rfl 4 rfl (lb rfl))) F S rfl fun a F=>?_
    obtain ⟨y4, hy4, hm⟩ := bind_some hm
    refine wl_call0 (wn rfl) rfl F rfl (commute_Commute_ok (fr := (fl [[bx b6 #[.i6 0, .string ByteArray.empty, .string ByteArray.empty, nilS, nilS] 30], [bx b5 #[.i6 0, .i6 0] 32], [bx b4 #[.i6 0, .string ByteArray.empty, .string ByteArray.empty, nilS, nilS] 30], [bx b3 #[.i6 0, .string ByteArray.empty, .string ByteArray.empty, nilS, nilS] 30], [bx b2 #[.i6 y2.Kind, .string y2.Path, .string y2.To, v3, v4] 30], [bx b1 #[.i6 y1.Kind, .string y1.Path, .string y1.To, v1, v2] 30]] fr)) y1.Patch v2 (h6.mono ((l6.trans l7).trans l8)) y2.Patch v4 (h8.mono l8) S hy4) rfl tc40 rfl rfl ?_; clear F a S
    rintro _ a w ⟨g9, v5, v6, l9, S, h9, h10, rfl⟩ F; replace S : St g9 [[bx b6 #[.i6 0, .string ByteArray.empty, .string ByteArray.empty, nilS, nilS] 30], [bx b5 #[.i6 0, .i6 0] 32], [bx b4 #[.i6 0, .string ByteArray.empty, .string ByteArray.empty, nilS, nilS] 30], [bx b3 #[.i6 0, .string ByteArray.empty, .string ByteArray.empty, nilS, nilS] 30], [bx b2 #[.i6 y2.Kind, .string y2.Path, .string y2.To, v3, v4] 30], [bx b1 #[.i6 y1.Kind, .string y1.Path, .string y1.To, v1, v2] 30]] fr w := S
    refine wE (ev_move rfl) F S rfl fun a F=>?_
    refine wE (ev_extract rfl rfl) F S rfl fun a F=>?_
    refine wE (ev_extract rfl rfl) F S rfl fun a F=>?_
    refine wE (ev_extract rfl rfl) F S rfl fun a F=>?_
    refine wE (ev_extract rfl rfl) F S rfl fun a F=>?_
    refine wl_alloc (wn rfl) rfl tz27 (cs := [nilS]) rfl F S rfl rfl ?_; clear F a S; rintro b7 a w F S
    refine wl_alloc (wn rfl) rfl tz27 (cs := [nilS]) rfl F S rfl rfl ?_; clear F a S; rintro b8 a w F S
    refine wl_alloc (wn rfl) rfl tz32 (cs := [.i6 0, .i6 0]) rfl F S rfl rfl ?_; clear F a S; rintro b9 a w F S
    refine wl_storeC (wn rfl) rfl F S rfl rfl (vs := [v5]) rfl ts27 (one_cons h9.one one_nil) (k := 2) rfl (lb rfl) (c' := #[v5]) rfl rfl ?_; clear S; intro w S
    refine wl_storeC (wn rfl) rfl F S rfl rfl (vs := [v6]) rfl ts27 (one_cons h10.one one_nil) (k := 1) rfl (lb rfl) (c' := #[v6]) rfl rfl ?_; clear S; intro w S
    refine wE (ev_assign rfl) F S rfl fun a F=>?_
    refine wl_storeC (wn rfl) rfl F S rfl rfl (vs := [.i6 y4.2.2.2.Code, .i6 y4.2.2.2.Index]) rfl ts32 (one_cons rfl (one_cons rfl one_nil)) (k := 0) rfl (lb rfl) (c' := #[.i6 y4.2.2.2.Code, .i6 y4.2.2.2.Index]) rfl rfl ?_; clear S; intro w S
    refine wpList_nil ?_
    refine then_n ?_
    refine wp_seq ?_
    refine wp_seq ?_
    refine wp_region_lit ?_
    refine wE (ev_loadA tu32 rfl (cs := [.i6 y4.2.2.2.Code, .i6 y4.2.2.2.Index]) ts32 rfl (box_ptr (cells := [.i6 y4.2.2.2.Code, .i6 y4.2.2.2.Index]) 0 rfl 0 rfl (lb rfl))) F S rfl fun a F=>?_
    refine wE (ev_build (parts := []) (vs := []) rfl (fun w => tb32_  w)) F S rfl fun a F=>?_
    refine wE (ev_neS tu32 tqa32 tqb32 tqc32 (xs := [.i6 y4.2.2.2.Code, .i6 y4.2.2.2.Index]) (ys := [.i6 0, .i6 0]) rfl rfl ⟨_, _, rfl, by decide, ⟨_, _, rfl, rfl, leaf_int tu3⟩, ⟨_, _, rfl, by decide, ⟨_, _, rfl, rfl, leaf_int tu3⟩, rfl⟩⟩) F S rfl fun a F=>?_
    refine wpList_nil ?_
    refine then_n ?_
    obtain ⟨hc5, hm⟩ | ⟨hc5, hm⟩ := ite_or hm
    ·refine wp_condT F rfl hc5 ?_
     refine wp_seq ?_
     refine wp_dv [] mo S ?_; clear S; intro ok3 w S
     refine dv_ev ok3 0 rfl (ev_loadA tu30 rfl (cs := [.i6 0, .string ByteArray.empty, .string ByteArray.empty, nilS, nilS]) ts30 rfl (box_ptr (cells := [.i6 0, .string ByteArray.empty, .string ByteArray.empty, nilS, nilS]) 3 rfl 0 rfl (lb rfl))) F S rfl fun a F=>?_
     refine dv_ev ok3 1 rfl (ev_loadA tu30 rfl (cs := [.i6 0, .string ByteArray.empty, .string ByteArray.empty, nilS, nilS]) ts30 rfl (box_ptr (cells := [.i6 0, .string ByteArray.empty, .string ByteArray.empty, nilS, nilS]) 3 rfl 0 rfl (lb rfl))) F S rfl fun a F=>?_
     refine dv_et ok3 2 rfl (ev_fieldAddr' tu32 tf32_0 (z := 0) ts3 rfl ⟨_, rfl⟩ rfl) F rfl fun a F=>?_
     refine dv_ev ok3 3 rfl (ev_load1 tu3 rfl rfl (box_ptr (cells := [.i6 y4.2.2.2.Code]) 0 rfl 0 rfl (lb rfl))) F S rfl fun a F=>?_
     refine dv_et ok3 4 rfl (ev_build (parts := [(0, .tmp 84), (1, .const (.i6 (-1)))]) (vs := [(0, .i6 y4.2.2.2.Code), (1, .i6 (-1))]) rfl (fun w => tb32_0_1 y4.2.2.2.Code (-1) w)) F rfl fun a F=>?_
     refine dv_op ok3 5 rfl [(3, .i6 y4.2.2.2.Code), (1, .agg #[.i6 0, .string ByteArray.empty, .string ByteArray.empty, nilS, nilS])] ?_
     refine wl_storeC (wn rfl) rfl F S rfl rfl (vs := [.i6 0, .string ByteArray.empty, .string ByteArray.empty, nilS, nilS]) rfl ts30 (one_cons rfl (one_cons rfl (one_cons rfl (one_cons rfl (one_cons rfl one_nil))))) (k := 6) rfl (lb rfl) (c' := #[.i6 0, .string ByteArray.empty, .string ByteArray.empty, nilS, nilS]) rfl rfl ?_; clear S; intro w S
     refine dv_nx ⟨yl_ev rfl rfl (ev_load1 tu3 rfl rfl (box_ptr (cells := [.i6 y4.2.2.2.Code]) 0 rfl 0 rfl (lb rfl))) F S, yl_ev rfl rfl (ev_loadA tu30 rfl (cs := [.i6 0, .string ByteArray.empty, .string ByteArray.empty, nilS, nilS]) ts30 rfl (box_ptr (cells := [.i6 0, .string ByteArray.empty, .string ByteArray.empty, nilS, nilS]) 3 rfl 0 rfl (lb rfl))) F S, trivial⟩ ?_
     refine dv_op ok3 6 rfl [(3, .i6 y4.2.2.2.Code)] ?_
     refine wl_storeC (wn rfl) rfl F S rfl rfl (vs := [.i6 0, .string ByteArray.empty, .string ByteArray.empty, nilS, nilS]) rfl ts30 (one_cons rfl (one_cons rfl (one_cons rfl (one_cons rfl (one_cons rfl one_nil))))) (k := 5) rfl (lb rfl) (c' := #[.i6 0, .string ByteArray.empty, .string ByteArray.empty, nilS, nilS]) rfl rfl ?_; clear S; intro w S
     refine dv_nx ⟨yl_ev rfl rfl (ev_load1 tu3 rfl rfl (box_ptr (cells := [.i6 y4.2.2.2.Code]) 0 rfl 0 rfl (lb rfl))) F S, trivial⟩ ?_
     refine dv_et ok3 7 rfl (ev_assign rfl) F rfl fun a F=>?_
     refine dv_op ok3 8 rfl [] ?_
     refine wl_storeC (wn rfl) rfl F S rfl rfl (vs := [.i6 y4.2.2.2.Code, .i6 (-1)]) rfl ts32 (one_cons rfl (one_cons rfl one_nil)) (k := 4) rfl (lb rfl) (c' := #[.i6 y4.2.2.2.Code, .i6 (-1)]) rfl rfl ?_; clear S; intro w S
     refine dv_nx trivial ?_
     refine dv_fin ok3 ?_
     refine then_n ?_
     refine wp_ret ?_
     refine then_r ?_
     refine inb_r ?_
     refine then_r ?_
     obtain rfl := sinj hm
     refine post_r _ F rfl (ar_cons (resA rfl tu30 rfl (box_ptr (cells := [.i6 0, .string ByteArray.empty, .string ByteArray.empty, nilS, nilS]) 6 rfl 0 rfl (lb rfl) w S) ts30) (ar_cons (resA rfl tu30 rfl (box_ptr (cells := [.i6 0, .string ByteArray.empty, .string ByteArray.empty, nilS, nilS]) 5 rfl 0 rfl (lb rfl) w S) ts30) (ar_cons (resT rfl) (ar_cons (resA rfl tu32 rfl (box_ptr (cells := [.i6 y4.2.2.2.Code, .i6 (-1)]) 4 rfl 0 rfl (lb rfl) w S) ts32) ar_nil)))) ?_
     replace S : St g9 [] fr w := St.tail [] _ S
     exact ⟨_, rfl, g9, (nilS), (nilS), (nilS), (nilS), ((((((((l1.trans l2).trans l3).trans l4).trans l5).trans l6).trans l7).trans l8).trans l9), S, (RepSl.nil _), (RepSl.nil _), (RepSl.nil _), (RepSl.nil _), rfl⟩
    ·refine wp_condF F rfl hc5 ?_
     refine wp_skip ?_
     refine then_n ?_
     refine wp_seq ?_
     refine wp_seq ?_
     refine wp_region_lit ?_
     refine wE (ev_move rfl) F S rfl fun a F=>?_
     refine wE (ev_not rfl) F S rfl fun a F=>?_
     refine wpList_nil ?_
     refine then_n ?_
     obtain ⟨hc6, hm⟩ | ⟨hc6, hm⟩ := ite_or hm
     ·refine wp_condT F rfl hc6 ?_
      refine wp_seq ?_
      refine wp_dv [] mo S ?_; clear S; intro ok4 w S
      refine dv_ev ok4 0 rfl (ev_loadA tu30 rfl (cs := [.i6 0, .string ByteArray.empty, .string ByteArray.empty, nilS, nilS]) ts30 rfl (box_ptr (cells := [.i6 0, .string ByteArray.empty, .string ByteArray.empty, nilS, nilS]) 3 rfl 0 rfl (lb rfl))) F S rfl fun a F=>?_
      refine dv_ev ok4 1 rfl (ev_loadA tu30 rfl (cs := [.i6 0, .string ByteArray.empty, .string ByteArray.empty, nilS, nilS]) ts30 rfl (box_ptr (cells := [.i6 0, .string ByteArray.empty, .string ByteArray.empty, nilS, nilS]) 3 rfl 0 rfl (lb rfl))) F S rfl fun a F=>?_
      refine dv_et ok4 2 rfl (ev_build (parts := []) (vs := []) rfl (fun w => tb32_  w)) F rfl fun a F=>?_
      refine dv_op ok4 3 rfl [(1, .agg #[.i6 0, .string ByteArray.empty, .string ByteArray.empty, nilS, nilS])] ?_
      refine wl_storeC (wn rfl) rfl F S rfl rfl (vs := [.i6 0, .string ByteArray.empty, .string ByteArray.empty, nilS, nilS]) rfl ts30 (one_cons rfl (one_cons rfl (one_cons rfl (one_cons rfl (one_cons rfl one_nil))))) (k := 6) rfl (lb rfl) (c' := #[.i6 0, .string ByteArray.empty, .string ByteArray.empty, nilS, nilS]) rfl rfl ?_; clear S; intro w S
      refine dv_nx ⟨yl_ev rfl rfl (ev_loadA tu30 rfl (cs := [.i6 0, .string ByteArray.empty, .string ByteArray.empty, nilS, nilS]) ts30 rfl (box_ptr (cells := [.i6 0, .string ByteArray.empty, .string ByteArray.empty, nilS, nilS]) 3 rfl 0 rfl (lb rfl))) F S, trivial⟩ ?_
      refine dv_op ok4 4 rfl [] ?_
      refine wl_storeC (wn rfl) rfl F S rfl rfl (vs := [.i6 0, .string ByteArray.empty, .string ByteArray.empty, nilS, nilS]) rfl ts30 (one_cons rfl (one_cons rfl (one_cons rfl (one_cons rfl (one_cons rfl one_nil))))) (k := 5) rfl (lb rfl) (c' := #[.i6 0, .string ByteArray.empty, .string ByteArray.empty, nilS, nilS]) rfl rfl ?_; clear S; intro w S
      refine dv_nx trivial ?_
      refine dv_et ok4 5 rfl (ev_assign rfl) F rfl fun a F=>?_
      refine dv_op ok4 6 rfl [] ?_
      refine wl_storeC (wn rfl) rfl F S rfl rfl (vs := [.i6 0, .i6 0]) rfl ts32 (one_cons rfl (one_cons rfl one_nil)) (k := 4) rfl (lb rfl) (c' := #[.i6 0, .i6 0]) rfl rfl ?_; clear S; intro w S
      refine dv_nx trivial ?_
      refine dv_fin ok4 ?_
      refine then_n ?_
      refine wp_ret ?_
      refine then_r ?_
      refine inb_r ?_
      refine then_r ?_
      obtain rfl := sinj hm
      refine post_r _ F rfl (ar_cons (resA rfl tu30 rfl (box_ptr (cells := [.i6 0, .string ByteArray.empty, .string ByteArray.empty, nilS, nilS]) 6 rfl 0 rfl (lb rfl) w S) ts30) (ar_cons (resA rfl tu30 rfl (box_ptr (cells := [.i6 0, .string ByteArray.empty, .string ByteArray.empty, nilS, nilS]) 5 rfl 0 rfl (lb rfl) w S) ts30) (ar_cons (resT rfl) (ar_cons (resA rfl tu32 rfl (box_ptr (cells := [.i6 0, .i6 0]) 4 rfl 0 rfl (lb rfl) w S) ts32) ar_nil)))) ?_
      replace S : St g9 [] fr w := St.tail [] _ S
      exact ⟨_, rfl, g9, (nilS), (nilS), (nilS), (nilS), ((((((((l1.trans l2).trans l3).trans l4).trans l5).trans l6).trans l7).trans l8).trans l9), S, (RepSl.nil _), (RepSl.nil _), (RepSl.nil _), (RepSl.nil _), rfl⟩
     ·refine wp_condF F rfl hc6 ?_
      refine wp_skip ?_
      refine then_n ?_
      refine wp_seq ?_
      refine wp_dv [] mo S ?_; clear S; intro ok5 w S
      refine dv_et ok5 0 rfl (ev_fieldAddr' tu30 tf30_1 (z := 0) ts9 rfl ⟨_, rfl⟩ rfl) F rfl fun a F=>?_
      refine dv_ev ok5 1 rfl (ev_load1 tu9 rfl rfl (box_ptr (cells := [.string y2.Path]) 7 rfl 1 rfl (lb rfl))) F S rfl fun a F=>?_
      refine dv_ev ok5 2 rfl (ev_loadA tu27 rfl (cs := [v5]) ts27 rfl (box_ptr (cells := [v5]) 2 rfl 0 rfl (lb rfl))) F S rfl fun a F=>?_
      refine dv_et ok5 4 rfl (ev_fieldAddr' tu30 tf30_1 (z := 0) ts9 rfl ⟨_, rfl⟩ rfl) F rfl fun a F=>?_
      refine dv_ev ok5 5 rfl (ev_load1 tu9 rfl rfl (box_ptr (cells := [.string y1.Path]) 8 rfl 1 rfl (lb rfl))) F S rfl fun a F=>?_
      refine dv_ev ok5 6 rfl (ev_loadA tu27 rfl (cs := [v6]) ts27 rfl (box_ptr (cells := [v6]) 1 rfl 0 rfl (lb rfl))) F S rfl fun a F=>?_
      refine dv_et ok5 8 rfl (ev_build (parts := []) (vs := []) rfl (fun w => tb32_  w)) F rfl fun a F=>?_
      refine dv_op ok5 3 rfl [(6, .agg #[v6]), (5, .string y1.Path)] ?_
      obtain ⟨y5, hy5, hm⟩ := bind_some hm
      refine wl_call0 (wn rfl) rfl F rfl (treecommute_edit_ok (fr := (fl [[bx b9 #[.i6 y4.2.2.2.Code, .i6 y4.2.2.2.Index] 32], [bx b8 #[v6] 27], [bx b7 #[v5] 27], [bx b6 #[.i6 0, .string ByteArray.empty, .string ByteArray.empty, nilS, nilS] 30], [bx b5 #[.i6 0, .i6 0] 32], [bx b4 #[.i6 0, .string ByteArray.empty, .string ByteArray.empty, nilS, nilS] 30], [bx b3 #[.i6 0, .string ByteArray.empty, .string ByteArray.empty, nilS, nilS] 30], [bx b2 #[.i6 y2.Kind, .string y2.Path, .string y2.To, v3, v4] 30], [bx b1 #[.i6 y1.Kind, .string y1.Path, .string y1.To, v1, v2] 30]] fr)) y2.Path y4.1 v5 h9 S hy5) rfl tc41 rfl rfl ?_; clear F a S
      rintro _ a w ⟨g10, v7, v8, l10, S, h11, h12, rfl⟩ F; replace S : St g10 [[bx b9 #[.i6 y4.2.2.2.Code, .i6 y4.2.2.2.Index] 32], [bx b8 #[v6] 27], [bx b7 #[v5] 27], [bx b6 #[.i6 0, .string ByteArray.empty, .string ByteArray.empty, nilS, nilS] 30], [bx b5 #[.i6 0, .i6 0] 32], [bx b4 #[.i6 0, .string ByteArray.empty, .string ByteArray.empty, nilS, nilS] 30], [bx b3 #[.i6 0, .string ByteArray.empty, .string ByteArray.empty, nilS, nilS] 30], [bx b2 #[.i6 y2.Kind, .string y2.Path, .string y2.To, v3, v4] 30], [bx b1 #[.i6 y1.Kind, .string y1.Path, .string y1.To, v1, v2] 30]] fr w := S
      refine dv_nx ⟨yl_ev rfl rfl (ev_loadA tu27 rfl (cs := [v6]) ts27 rfl (box_ptr (cells := [v6]) 1 rfl 0 rfl (lb rfl))) F S, yl_ev rfl rfl (ev_load1 tu9 rfl rfl (box_ptr (cells := [.string y1.Path]) 8 rfl 1 rfl (lb rfl))) F S, trivial⟩ ?_
      refine dv_op ok5 7 rfl [] ?_
      obtain ⟨y6, hy6, hm⟩ := bind_some hm
      refine wl_call0 (wn rfl) rfl F rfl (treecommute_edit_ok (fr := (fl [[bx b9 #[.i6 y4.2.2.2.Code, .i6 y4.2.2.2.Index] 32], [bx b8 #[v6] 27], [bx b7 #[v5] 27], [bx b6 #[.i6 0, .string ByteArray.empty, .string ByteArray.empty, nilS, nilS] 30], [bx b5 #[.i6 0, .i6 0] 32], [bx b4 #[.i6 0, .string ByteArray.empty, .string ByteArray.empty, nilS, nilS] 30], [bx b3 #[.i6 0, .string ByteArray.empty, .string ByteArray.empty, nilS, nilS] 30], [bx b2 #[.i6 y2.Kind, .string y2.Path, .string y2.To, v3, v4] 30], [bx b1 #[.i6 y1.Kind, .string y1.Path, .string y1.To, v1, v2] 30]] fr)) y1.Path y4.2.1 v6 (h10.mono l10) S hy6) rfl tc41 rfl rfl ?_; clear F a S
      rintro _ a w ⟨g11, v9, v10, l11, S, h13, h14, rfl⟩ F; replace S : St g11 [[bx b9 #[.i6 y4.2.2.2.Code, .i6 y4.2.2.2.Index] 32], [bx b8 #[v6] 27], [bx b7 #[v5] 27], [bx b6 #[.i6 0, .string ByteArray.empty, .string ByteArray.empty, nilS, nilS] 30], [bx b5 #[.i6 0, .i6 0] 32], [bx b4 #[.i6 0, .string ByteArray.empty, .string ByteArray.empty, nilS, nilS] 30], [bx b3 #[.i6 0, .string ByteArray.empty, .string ByteArray.empty, nilS, nilS] 30], [bx b2 #[.i6 y2.Kind, .string y2.Path, .string y2.To, v3, v4] 30], [bx b1 #[.i6 y1.Kind, .string y1.Path, .string y1.To, v1, v2] 30]] fr w := S
      refine dv_nx trivial ?_
      refine dv_op ok5 9 rfl [] ?_
      refine wl_storeC (wn rfl) rfl F S rfl rfl (vs := [.i6 y5.Kind, .string y5.Path, .string y5.To, v7, v8]) rfl ts30 (one_cons rfl (one_cons rfl (one_cons rfl (one_cons h11.one (one_cons h12.one one_nil))))) (k := 6) rfl (lb rfl) (c' := #[.i6 y5.Kind, .string y5.Path, .string y5.To, v7, v8]) rfl rfl ?_; clear S; intro w S
      refine dv_nx trivial ?_
      refine dv_op ok5 10 rfl [] ?_
      refine wl_storeC (wn rfl) rfl F S rfl rfl (vs := [.i6 y6.Kind, .string y6.Path, .string y6.To, v9, v10]) rfl ts30 (one_cons rfl (one_cons rfl (one_cons rfl (one_cons h13.one (one_cons h14.one one_nil))))) (k := 5) rfl (lb rfl) (c' := #[.i6 y6.Kind, .string y6.Path, .string y6.To, v9, v10]) rfl rfl ?_; clear S; intro w S
      refine dv_nx trivial ?_
      refine dv_et ok5 11 rfl (ev_assign rfl) F rfl fun a F=>?_
      refine dv_op ok5 12 rfl [] ?_
      refine wl_storeC (wn rfl) rfl F S rfl rfl (vs := [.i6 0, .i6 0]) rfl ts32 (one_cons rfl (one_cons rfl one_nil)) (k := 4) rfl (lb rfl) (c' := #[.i6 0, .i6 0]) rfl rfl ?_; clear S; intro w S
      refine dv_nx trivial ?_
      refine dv_fin ok5 ?_
      refine then_n ?_
      refine wp_ret ?_
      refine inb_r ?_
      refine then_r ?_
      obtain rfl := sinj hm
      refine post_r _ F rfl (ar_cons (resA rfl tu30 rfl (box_ptr (cells := [.i6 y5.Kind, .string y5.Path, .string y5.To, v7, v8]) 6 rfl 0 rfl (lb rfl) w S) ts30) (ar_cons (resA rfl tu30 rfl (box_ptr (cells := [.i6 y6.Kind, .string y6.Path, .string y6.To, v9, v10]) 5 rfl 0 rfl (lb rfl) w S) ts30) (ar_cons (resT rfl) (ar_cons (resA rfl tu32 rfl (box_ptr (cells := [.i6 0, .i6 0]) 4 rfl 0 rfl (lb rfl) w S) ts32) ar_nil)))) ?_
      replace S : St g11 [] fr w := St.tail [] _ S
      exact ⟨_, rfl, g11, v7, v8, v9, v10, ((((((((((l1.trans l2).trans l3).trans l4).trans l5).trans l6).trans l7).trans l8).trans l9).trans l10).trans l11), S, (h11.mono l11), (h12.mono l11), h13, h14, rfl⟩
   ·refine wp_condF F rfl hc4 ?_
    refine wp_seq ?_
    refine wp_region_lit ?_
    refine wE (ev_fieldAddr' tu30 tf30_0 (z := 0) ts3 rfl ⟨_, rfl⟩ rfl) F S rfl fun a F=>?_
    refine wE (ev_load1 tu3 rfl rfl (box_ptr (cells := [.i6 y1.Kind]) 5 rfl 0 rfl (lb rfl))) F S rfl fun a F=>?_
    refine wE (ev_int rfl rfl (bo_eql _ _ _ _)) F S rfl fun a F=>?_
    refine wE (ev_move rfl) F S rfl fun a F=>?_
    obtain ⟨x3, hx3, hm⟩ := bind_some hm
    refine wl_cut 2 (fun a w' => w = w' ∧ Fr 145 a [(106, .bool x3), (12, .bool (decide (y1.Kind = 4))), (8, bp b6 0), (7, bp b5 0), (5, bp b4 0), (4, bp b3 0), (3, bp b2 0), (2, bp b1 0)]) ?_ ?_
    ·clear hm; obtain ⟨hc7, hm⟩ | ⟨hc7, hm⟩ := ite_or hx3
     ·refine wl_ev (wg F rfl rfl rfl rfl hc7) (ev_move rfl) F S rfl rfl ?_; clear F a; intro a F
      refine wE (ev_pickT rfl hc7 rfl) F S rfl fun a F=>?_
      obtain rfl := sinj hm
      refine wpList_nil (then_n ?_); exact ⟨rfl, F.sub ⟨rfl, rfl, rfl, rfl, rfl, rfl, rfl, rfl, trivial⟩⟩
     ·refine wl_skip rfl rfl rfl rfl (ne_tf hc7) F rfl rfl ?_; clear F a; intro a F
      refine wE (ev_pickF rfl hc7 rfl) F S rfl fun a F=>?_
      obtain rfl := sinj hm
      refine wpList_nil (then_n ?_); exact ⟨rfl, F.sub ⟨rfl, rfl, rfl, rfl, rfl, rfl, rfl, rfl, trivial⟩⟩
    clear F; rintro a w' ⟨rfl, F⟩
    refine wE (ev_move rfl) F S rfl fun a F=>?_
    obtain ⟨x4, hx4, hm⟩ := bind_some hm
    refine wl_cut 6 (fun a w' => w = w' ∧ Fr 145 a [(113, .bool x4), (12, .bool (decide (y1.Kind = 4))), (8, bp b6 0), (7, bp b5 0), (5, bp b4 0), (4, bp b3 0), (3, bp b2 0), (2, bp b1 0)]) ?_ ?_
    ·clear hm; obtain ⟨hc8, hm⟩ | ⟨hc8, hm⟩ := ite_or hx4
     ·refine wl_ev (wg F rfl rfl rfl rfl hc8) (ev_fieldAddr' tu30 tf30_1 (z := 0) ts9 rfl ⟨_, rfl⟩ rfl) F S rfl rfl ?_; clear F a; intro a F
      refine wl_ev (wg F rfl rfl rfl rfl hc8) (ev_load1 tu9 rfl rfl (box_ptr (cells := [.string y2.Path]) 4 rfl 1 rfl (lb rfl))) F S rfl rfl ?_; clear F a; intro a F
      refine wl_ev (wg F rfl rfl rfl rfl hc8) (ev_fieldAddr' tu30 tf30_2 (z := 0) ts9 rfl ⟨_, rfl⟩ rfl) F S rfl rfl ?_; clear F a; intro a F
      refine wl_ev (wg F rfl rfl rfl rfl hc8) (ev_load1 tu9 rfl rfl (box_ptr (cells := [.string y1.To]) 5 rfl 2 rfl (lb rfl))) F S rfl rfl ?_; clear F a; intro a F
      refine wl_ev (wg F rfl rfl rfl rfl hc8) (ev_str rfl rfl (bs_eql _ _ _)) F S rfl rfl ?_; clear F a; intro a F
      refine wE (ev_pickT rfl hc8 rfl) F S rfl fun a F=>?_
      obtain rfl := sinj hm
      refine wpList_nil (then_n ?_); exact ⟨rfl, F.sub ⟨rfl, rfl, rfl, rfl, rfl, rfl, rfl, rfl, trivial⟩⟩
     ·refine wl_skip rfl rfl rfl rfl (ne_tf hc8) F rfl rfl ?_; clear F a; intro a F
      refine wl_skip rfl rfl rfl rfl (ne_tf hc8) F rfl rfl ?_; clear F a; intro a F
      refine wl_skip rfl rfl rfl rfl (ne_tf hc8) F rfl rfl ?_; clear F a; intro a F
      refine wl_skip rfl rfl rfl rfl (ne_tf hc8) F rfl rfl ?_; clear F a; intro a F
      refine wl_skip rfl rfl rfl rfl (ne_tf hc8) F rfl rfl ?_; clear F a; intro a F
      refine wE (ev_pickF rfl hc8 rfl) F S rfl fun a F=>?_
      obtain rfl := sinj hm
      refine wpList_nil (then_n ?_); exact ⟨rfl, F.sub ⟨rfl, rfl, rfl, rfl, rfl, rfl, rfl, rfl, trivial⟩⟩
    clear F; rintro a w' ⟨rfl, F⟩
    refine wE (ev_assign rfl) F S rfl fun a F=>?_
    refine wpList_nil ?_
    refine then_n ?_
    obtain ⟨hc9, hm⟩ | ⟨hc9, hm⟩ := ite_or hm
    ·refine wp_condT F rfl hc9 ?_
     refine wp_seq ?_
     refine wp_dv [] mo S ?_; clear S; intro ok6 w S
     refine dv_et ok6 0 rfl (ev_fieldAddr' tu30 tf30_1 (z := 0) ts9 rfl ⟨_, rfl⟩ rfl) F rfl fun a F=>?_
     refine dv_ev ok6 1 rfl (ev_load1 tu9 rfl rfl (box_ptr (cells := [.string y1.Path]) 5 rfl 1 rfl (lb rfl))) F S rfl fun a F=>?_
     refine dv_et ok6 2 rfl (ev_fieldAddr' tu30 tf30_4 (z := 0) ts27 rfl ⟨_, rfl⟩ rfl) F rfl fun a F=>?_
     refine dv_ev ok6 3 rfl (ev_loadA tu27 rfl (cs := [v4]) ts27 rfl (box_ptr (cells := [v4]) 4 rfl 4 rfl (lb rfl))) F S rfl fun a F=>?_
     refine dv_ev ok6 5 rfl (ev_loadA tu30 rfl (cs := [.i6 y1.Kind, .string y1.Path, .string y1.To, v1, v2]) ts30 rfl (box_ptr (cells := [.i6 y1.Kind, .string y1.Path, .string y1.To, v1, v2]) 5 rfl 0 rfl (lb rfl))) F S rfl fun a F=>?_
     refine dv_et ok6 6 rfl (ev_build (parts := []) (vs := []) rfl (fun w => tb32_  w)) F rfl fun a F=>?_
     refine dv_op ok6 4 rfl [(5, .agg #[.i6 y1.Kind, .string y1.Path, .string y1.To, v1, v2])] ?_
     obtain ⟨y7, hy7, hm⟩ := bind_some hm
     refine wl_call0 (wn rfl) rfl F rfl (treecommute_edit_ok (fr := (fl [[bx b6 #[.i6 0, .string ByteArray.empty, .string ByteArray.empty, nilS, nilS] 30], [bx b5 #[.i6 0, .i6 0] 32], [bx b4 #[.i6 0, .string ByteArray.empty, .string ByteArray.empty, nilS, nilS] 30], [bx b3 #[.i6 0, .string ByteArray.empty, .string ByteArray.empty, nilS, nilS] 30], [bx b2 #[.i6 y2.Kind, .string y2.Path, .string y2.To, v3, v4] 30], [bx b1 #[.i6 y1.Kind, .string y1.Path, .string y1.To, v1, v2] 30]] fr)) y1.Path y2.Patch v4 (h8.mono l8) S hy7) rfl tc41 rfl rfl ?_; clear F a S
     rintro _ a w ⟨g12, v11, v12, l12, S, h15, h16, rfl⟩ F; replace S : St g12 [[bx b6 #[.i6 0, .string ByteArray.empty, .string ByteArray.empty, nilS, nilS] 30], [bx b5 #[.i6 0, .i6 0] 32], [bx b4 #[.i6 0, .string ByteArray.empty, .string ByteArray.empty, nilS, nilS] 30], [bx b3 #[.i6 0, .string ByteArray.empty, .string ByteArray.empty, nilS, nilS] 30], [bx b2 #[.i6 y2.Kind, .string y2.Path, .string y2.To, v3, v4] 30], [bx b1 #[.i6 y1.Kind, .string y1.Path, .string y1.To, v1, v2] 30]] fr w := S
     refine dv_nx ⟨yl_ev rfl rfl (ev_loadA tu30 rfl (cs := [.i6 y1.Kind, .string y1.Path, .string y1.To, v1, v2]) ts30 rfl (box_ptr (cells := [.i6 y1.Kind, .string y1.Path, .string y1.To, v1, v2]) 5 rfl 0 rfl (lb rfl))) F S, trivial⟩ ?_
     refine dv_op ok6 7 rfl [(5, .agg #[.i6 y1.Kind, .string y1.Path, .string y1.To, v1, v2])] ?_
     refine wl_storeC (wn rfl) rfl F S rfl rfl (vs := [.i6 y7.Kind, .string y7.Path, .string y7.To, v11, v12]) rfl ts30 (one_cons rfl (one_cons rfl (one_cons rfl (one_cons h15.one (one_cons h16.one one_nil))))) (k := 3) rfl (lb rfl) (c' := #[.i6 y7.Kind, .string y7.Path, .string y7.To, v11, v12]) rfl rfl ?_; clear S; intro w S
     refine dv_nx ⟨yl_ev rfl rfl (ev_loadA tu30 rfl (cs := [.i6 y1.Kind, .string y1.Path, .string y1.To, v1, v2]) ts30 rfl (box_ptr (cells := [.i6 y1.Kind, .string y1.Path, .string y1.To, v1, v2]) 5 rfl 0 rfl (lb rfl))) F S, trivial⟩ ?_
     refine dv_op ok6 8 rfl [] ?_
     refine wl_storeC (wn rfl) rfl F S rfl rfl (vs := [.i6 y1.Kind, .string y1.Path, .string y1.To, v1, v2]) rfl ts30 (one_cons rfl (one_cons rfl (one_cons rfl (one_cons h5.one (one_cons h6.one one_nil))))) (k := 2) rfl (lb rfl) (c' := #[.i6 y1.Kind, .string y1.Path, .string y1.To, v1, v2]) rfl rfl ?_; clear S; intro w S
     refine dv_nx trivial ?_
     refine dv_et ok6 9 rfl (ev_assign rfl) F rfl fun a F=>?_
     refine dv_op ok6 10 rfl [] ?_
     refine wl_storeC (wn rfl) rfl F S rfl rfl (vs := [.i6 0, .i6 0]) rfl ts32 (one_cons rfl (one_cons rfl one_nil)) (k := 1) rfl (lb rfl) (c' := #[.i6 0, .i6 0]) rfl rfl ?_; clear S; intro w S
     refine dv_nx trivial ?_
     refine dv_fin ok6 ?_
     refine then_n ?_
     refine wp_ret ?_
     refine inb_r ?_
     refine then_r ?_
     obtain rfl := sinj hm
     refine post_r _ F rfl (ar_cons (resA rfl tu30 rfl (box_ptr (cells := [.i6 y7.Kind, .string y7.Path, .string y7.To, v11, v12]) 3 rfl 0 rfl (lb rfl) w S) ts30) (ar_cons (resA rfl tu30 rfl (box_ptr (cells := [.i6 y1.Kind, .string y1.Path, .string y1.To, v1, v2]) 2 rfl 0 rfl (lb rfl) w S) ts30) (ar_cons (resT rfl) (ar_cons (resA rfl tu32 rfl (box_ptr (cells := [.i6 0, .i6 0]) 1 rfl 0 rfl (lb rfl) w S) ts32) ar_nil)))) ?_
     replace S : St g12 [] fr w := St.tail [] _ S
     exact ⟨_, rfl, g12, v11, v12, v1, v2, ((((((((l1.trans l2).trans l3).trans l4).trans l5).trans l6).trans l7).trans l8).trans l12), S, h15, h16, (h5.mono ((((l5.trans l6).trans l7).trans l8).trans l12)), (h6.mono (((l6.trans l7).trans l8).trans l12)), rfl⟩
    ·refine wp_condF F rfl hc9 ?_
     refine wp_seq ?_
     refine wp_region_lit ?_
     refine wE (ev_move rfl) F S rfl fun a F=>?_
     refine wE (ev_move rfl) F S rfl fun a F=>?_
     obtain ⟨x5, hx5, hm⟩ := bind_some hm
     refine wl_cut 4 (fun a w' => w = w' ∧ Fr 145 a [(127, .bool x5), (8, bp b6 0), (7, bp b5 0), (5, bp b4 0), (4, bp b3 0), (3, bp b2 0), (2, bp b1 0)]) ?_ ?_
     ·clear hm; obtain ⟨hc10, hm⟩ | ⟨hc10, hm⟩ := ite_or hx5
      ·refine wl_ev (wg F rfl rfl rfl rfl hc10) (ev_fieldAddr' tu30 tf30_0 (z := 0) ts3 rfl ⟨_, rfl⟩ rfl) F S rfl rfl ?_; clear F a; intro a F
       refine wl_ev (wg F rfl rfl rfl rfl hc10) (ev_load1 tu3 rfl rfl (box_ptr (cells := [.i6 y2.Kind]) 4 rfl 0 rfl (lb rfl))) F S rfl rfl ?_; clear F a; intro a F
       refine wl_ev (wg F rfl rfl rfl rfl hc10) (ev_int rfl rfl (bo_eql _ _ _ _)) F S rfl rfl ?_; clear F a; intro a F
       refine wE (ev_pickT rfl hc10 rfl) F S rfl fun a F=>?_
       obtain rfl := sinj hm
       refine wpList_nil (then_n ?_); exact ⟨rfl, F.sub ⟨rfl, rfl, rfl, rfl, rfl, rfl, rfl, trivial⟩⟩
      ·refine wl_skip rfl rfl rfl rfl (ne_tf hc10) F rfl rfl ?_; clear F a; intro a F
       refine wl_skip rfl rfl rfl rfl (ne_tf hc10) F rfl rfl ?_; clear F a; intro a F
       refine wl_skip rfl rfl rfl rfl (ne_tf hc10) F rfl rfl ?_; clear F a; intro a F
       refine wE (ev_pickF rfl hc10 rfl) F S rfl fun a F=>?_
       obtain rfl := sinj hm
       refine wpList_nil (then_n ?_); exact ⟨rfl, F.sub ⟨rfl, rfl, rfl, rfl, rfl, rfl, rfl, trivial⟩⟩
     clear F; rintro a w' ⟨rfl, F⟩
     refine wE (ev_move rfl) F S rfl fun a F=>?_
     obtain ⟨x6, hx6, hm⟩ := bind_some hm
     refine wl_cut 6 (fun a w' => w = w' ∧ Fr 145 a [(134, .bool x6), (8, bp b6 0), (7, bp b5 0), (5, bp b4 0), (4, bp b3 0), (3, bp b2 0), (2, bp b1 0)]) ?_ ?_
     ·clear hm; obtain ⟨hc11, hm⟩ | ⟨hc11, hm⟩ := ite_or hx6
      ·refine wl_ev (wg F rfl rfl rfl rfl hc11) (ev_fieldAddr' tu30 tf30_1 (z := 0) ts9 rfl ⟨_, rfl⟩ rfl) F S rfl rfl ?_; clear F a; intro a F
       refine wl_ev (wg F rfl rfl rfl rfl hc11) (ev_load1 tu9 rfl rfl (box_ptr (cells := [.string y2.Path]) 4 rfl 1 rfl (lb rfl))) F S rfl rfl ?_; clear F a; intro a F
       refine wl_ev (wg F rfl rfl rfl rfl hc11) (ev_fieldAddr' tu30 tf30_1 (z := 0) ts9 rfl ⟨_, rfl⟩ rfl) F S rfl rfl ?_; clear F a; intro a F
       refine wl_ev (wg F rfl rfl rfl rfl hc11) (ev_load1 tu9 rfl rfl (box_ptr (cells := [.string y1.Path]) 5 rfl 1 rfl (lb rfl))) F S rfl rfl ?_; clear F a; intro a F
       refine wl_ev (wg F rfl rfl rfl rfl hc11) (ev_str rfl rfl (bs_eql _ _ _)) F S rfl rfl ?_; clear F a; intro a F
       refine wE (ev_pickT rfl hc11 rfl) F S rfl fun a F=>?_
       obtain rfl := sinj hm
       refine wpList_nil (then_n ?_); exact ⟨rfl, F.sub ⟨rfl, rfl, rfl, rfl, rfl, rfl, rfl, trivial⟩⟩
      ·refine wl_skip rfl rfl rfl rfl (ne_tf hc11) F rfl rfl ?_; clear F a; intro a F
       refine wl_skip rfl rfl rfl rfl (ne_tf hc11) F rfl rfl ?_; clear F a; intro a F
       refine wl_skip rfl rfl rfl rfl (ne_tf hc11) F rfl rfl ?_; clear F a; intro a F
       refine wl_skip rfl rfl rfl rfl (ne_tf hc11) F rfl rfl ?_; clear F a; intro a F
       refine wl_skip rfl rfl rfl rfl (ne_tf hc11) F rfl rfl ?_; clear F a; intro a F
       refine wE (ev_pickF rfl hc11 rfl) F S rfl fun a F=>?_
       obtain rfl := sinj hm
       refine wpList_nil (then_n ?_); exact ⟨rfl, F.sub ⟨rfl, rfl, rfl, rfl, rfl, rfl, rfl, trivial⟩⟩
     clear F; rintro a w' ⟨rfl, F⟩
     refine wE (ev_assign rfl) F S rfl fun a F=>?_
     refine wpList_nil ?_
     refine then_n ?_
     obtain ⟨hc12, hm⟩ | ⟨hc12, hm⟩ := ite_or hm
     ·refine wp_condT F rfl hc12 ?_
      refine wp_seq ?_
      refine wp_dv [] mo S ?_; clear S; intro ok7 w S
      refine dv_ev ok7 0 rfl (ev_loadA tu30 rfl (cs := [.i6 y2.Kind, .string y2.Path, .string y2.To, v3, v4]) ts30 rfl (box_ptr (cells := [.i6 y2.Kind, .string y2.Path, .string y2.To, v3, v4]) 4 rfl 0 rfl (lb rfl))) F S rfl fun a F=>?_
      refine dv_et ok7 1 rfl (ev_fieldAddr' tu30 tf30_2 (z := 0) ts9 rfl ⟨_, rfl⟩ rfl) F rfl fun a F=>?_
      refine dv_ev ok7 2 rfl (ev_load1 tu9 rfl rfl (box_ptr (cells := [.string y2.To]) 4 rfl 2 rfl (lb rfl))) F S rfl fun a F=>?_
      refine dv_et ok7 3 rfl (ev_fieldAddr' tu30 tf30_4 (z := 0) ts27 rfl ⟨_, rfl⟩ rfl) F rfl fun a F=>?_
      refine dv_ev ok7 4 rfl (ev_loadA tu27 rfl (cs := [v2]) ts27 rfl (box_ptr (cells := [v2]) 5 rfl 4 rfl (lb rfl))) F S rfl fun a F=>?_
      refine dv_et ok7 6 rfl (ev_build (parts := []) (vs := []) rfl (fun w => tb32_  w)) F rfl fun a F=>?_
      refine dv_op ok7 5 rfl [(0, .agg #[.i6 y2.Kind, .string y2.Path, .string y2.To, v3, v4])] ?_
      obtain ⟨y8, hy8, hm⟩ := bind_some hm
      refine wl_call0 (wn rfl) rfl F rfl (treecommute_edit_ok (fr := (fl [[bx b6 #[.i6 0, .string ByteArray.empty, .string ByteArray.empty, nilS, nilS] 30], [bx b5 #[.i6 0, .i6 0] 32], [bx b4 #[.i6 0, .string ByteArray.empty, .string ByteArray.empty, nilS, nilS] 30], [bx b3 #[.i6 0, .string ByteArray.empty, .string ByteArray.empty, nilS, nilS] 30], [bx b2 #[.i6 y2.Kind, .string y2.Path, .string y2.To, v3, v4] 30], [bx b1 #[.i6 y1.Kind, .string y1.Path, .string y1.To, v1, v2] 30]] fr)) y2.To y1.Patch v2 (h6.mono ((l6.trans l7).trans l8)) S hy8) rfl tc41 rfl rfl ?_; clear F a S
      rintro _ a w ⟨g13, v13, v14, l13, S, h17, h18, rfl⟩ F; replace S : St g13 [[bx b6 #[.i6 0, .string ByteArray.empty, .string ByteArray.empty, nilS, nilS] 30], [bx b5 #[.i6 0, .i6 0] 32], [bx b4 #[.i6 0, .string ByteArray.empty, .string ByteArray.empty, nilS, nilS] 30], [bx b3 #[.i6 0, .string ByteArray.empty, .string ByteArray.empty, nilS, nilS] 30], [bx b2 #[.i6 y2.Kind, .string y2.Path, .string y2.To, v3, v4] 30], [bx b1 #[.i6 y1.Kind, .string y1.Path, .string y1.To, v1, v2] 30]] fr w := S
      refine dv_nx ⟨yl_ev rfl rfl (ev_loadA tu30 rfl (cs := [.i6 y2.Kind, .string y2.Path, .string y2.To, v3, v4]) ts30 rfl (box_ptr (cells := [.i6 y2.Kind, .string y2.Path, .string y2.To, v3, v4]) 4 rfl 0 rfl (lb rfl))) F S, trivial⟩ ?_
      refine dv_op ok7 7 rfl [] ?_
      refine wl_storeC (wn rfl) rfl F S rfl rfl (vs := [.i6 y2.Kind, .string y2.Path, .string y2.To, v3, v4]) rfl ts30 (one_cons rfl (one_cons rfl (one_cons rfl (one_cons h7.one (one_cons h8.one one_nil))))) (k := 3) rfl (lb rfl) (c' := #[.i6 y2.Kind, .string y2.Path, .string y2.To, v3, v4]) rfl rfl ?_; clear S; intro w S
      refine dv_nx trivial ?_
      refine dv_op ok7 8 rfl [] ?_
      refine wl_storeC (wn rfl) rfl F S rfl rfl (vs := [.i6 y8.Kind, .string y8.Path, .string y8.To, v13, v14]) rfl ts30 (one_cons rfl (one_cons rfl (one_cons rfl (one_cons h17.one (one_cons h18.one one_nil))))) (k := 2) rfl (lb rfl) (c' := #[.i6 y8.Kind, .string y8.Path, .string y8.To, v13, v14]) rfl rfl ?_; clear S; intro w S
      refine dv_nx trivial ?_
      refine dv_et ok7 9 rfl (ev_assign rfl) F rfl fun a F=>?_
      refine dv_op ok7 10 rfl [] ?_
      refine wl_storeC (wn rfl) rfl F S rfl rfl (vs := [.i6 0, .i6 0]) rfl ts32 (one_cons rfl (one_cons rfl one_nil)) (k := 1) rfl (lb rfl) (c' := #[.i6 0, .i6 0]) rfl rfl ?_; clear S; intro w S
      refine dv_nx trivial ?_
      refine dv_fin ok7 ?_
      refine then_n ?_
      refine wp_ret ?_
      refine inb_r ?_
      refine then_r ?_
      obtain rfl := sinj hm
      refine post_r _ F rfl (ar_cons (resA rfl tu30 rfl (box_ptr (cells := [.i6 y2.Kind, .string y2.Path, .string y2.To, v3, v4]) 3 rfl 0 rfl (lb rfl) w S) ts30) (ar_cons (resA rfl tu30 rfl (box_ptr (cells := [.i6 y8.Kind, .string y8.Path, .string y8.To, v13, v14]) 2 rfl 0 rfl (lb rfl) w S) ts30) (ar_cons (resT rfl) (ar_cons (resA rfl tu32 rfl (box_ptr (cells := [.i6 0, .i6 0]) 1 rfl 0 rfl (lb rfl) w S) ts32) ar_nil)))) ?_
      replace S : St g13 [] fr w := St.tail [] _ S
      exact ⟨_, rfl, g13, v3, v4, v13, v14, ((((((((l1.trans l2).trans l3).trans l4).trans l5).trans l6).trans l7).trans l8).trans l13), S, (h7.mono ((l7.trans l8).trans l13)), (h8.mono (l8.trans l13)), h17, h18, rfl⟩
     ·refine wp_condF F rfl hc12 ?_
      refine wp_skip ?_
      refine inb_n ?_
      refine then_n ?_
      refine wp_seq ?_
      refine wp_dv [] mo S ?_; clear S; intro ok8 w S
      refine dv_ev ok8 0 rfl (ev_loadA tu30 rfl (cs := [.i6 0, .string ByteArray.empty, .string ByteArray.empty, nilS, nilS]) ts30 rfl (box_ptr (cells := [.i6 0, .string ByteArray.empty, .string ByteArray.empty, nilS, nilS]) 0 rfl 0 rfl (lb rfl))) F S rfl fun a F=>?_
      refine dv_ev ok8 1 rfl (ev_loadA tu30 rfl (cs := [.i6 0, .string ByteArray.empty, .string ByteArray.empty, nilS, nilS]) ts30 rfl (box_ptr (cells := [.i6 0, .string ByteArray.empty, .string ByteArray.empty, nilS, nilS]) 0 rfl 0 rfl (lb rfl))) F S rfl fun a F=>?_
      refine dv_et ok8 2 rfl (ev_build (parts := []) (vs := []) rfl (fun w => tb32_  w)) F rfl fun a F=>?_
      refine dv_op ok8 3 rfl [(1, .agg #[.i6 0, .string ByteArray.empty, .string ByteArray.empty, nilS, nilS])] ?_
      refine wl_storeC (wn rfl) rfl F S rfl rfl (vs := [.i6 0, .string ByteArray.empty, .string ByteArray.empty, nilS, nilS]) rfl ts30 (one_cons rfl (one_cons rfl (one_cons rfl (one_cons rfl (one_cons rfl one_nil))))) (k := 3) rfl (lb rfl) (c' := #[.i6 0, .string ByteArray.empty, .string ByteArray.empty, nilS, nilS]) rfl rfl ?_; clear S; intro w S
      refine dv_nx ⟨yl_ev rfl rfl (ev_loadA tu30 rfl (cs := [.i6 0, .string ByteArray.empty, .string ByteArray.empty, nilS, nilS]) ts30 rfl (box_ptr (cells := [.i6 0, .string ByteArray.empty, .string ByteArray.empty, nilS, nilS]) 0 rfl 0 rfl (lb rfl))) F S, trivial⟩ ?_
      refine dv_op ok8 4 rfl [] ?_
      refine wl_storeC (wn rfl) rfl F S rfl rfl (vs := [.i6 0, .string ByteArray.empty, .string ByteArray.empty, nilS, nilS]) rfl ts30 (one_cons rfl (one_cons rfl (one_cons rfl (one_cons rfl (one_cons rfl one_nil))))) (k := 2) rfl (lb rfl) (c' := #[.i6 0, .string ByteArray.empty, .string ByteArray.empty, nilS, nilS]) rfl rfl ?_; clear S; intro w S
      refine dv_nx trivial ?_
      refine dv_et ok8 5 rfl (ev_assign rfl) F rfl fun a F=>?_
      refine dv_op ok8 6 rfl [] ?_
      refine wl_storeC (wn rfl) rfl F S rfl rfl (vs := [.i6 0, .i6 0]) rfl ts32 (one_cons rfl (one_cons rfl one_nil)) (k := 1) rfl (lb rfl) (c' := #[.i6 0, .i6 0]) rfl rfl ?_; clear S; intro w S
      refine dv_nx trivial ?_
      refine dv_fin ok8 ?_
      refine then_n ?_
      refine wp_ret ?_
      obtain rfl := sinj hm
      refine post_r _ F rfl (ar_cons (resA rfl tu30 rfl (box_ptr (cells := [.i6 0, .string ByteArray.empty, .string ByteArray.empty, nilS, nilS]) 3 rfl 0 rfl (lb rfl) w S) ts30) (ar_cons (resA rfl tu30 rfl (box_ptr (cells := [.i6 0, .string ByteArray.empty, .string ByteArray.empty, nilS, nilS]) 2 rfl 0 rfl (lb rfl) w S) ts30) (ar_cons (resT rfl) (ar_cons (resA rfl tu32 rfl (box_ptr (cells := [.i6 0, .i6 0]) 1 rfl 0 rfl (lb rfl) w S) ts32) ar_nil)))) ?_
      replace S : St g8 [] fr w := St.tail [] _ S
      exact ⟨_, rfl, g8, (nilS), (nilS), (nilS), (nilS), (((((((l1.trans l2).trans l3).trans l4).trans l5).trans l6).trans l7).trans l8), S, (RepSl.nil _), (RepSl.nil _), (RepSl.nil _), (RepSl.nil _), rfl⟩

theorem changeforgetop_TopRenamesAreFollowed_ok {g : Gh} {fr : Hl} {w : World} {r : Bool} (t_ : FileTree) (vt_1 : Value) (ht_1 : RepSl g t_.Files vt_1) (path : ByteArray) (to : ByteArray) (p_ : Patch) (vp_1 : Value) (hp_1 : RepSl g p_.Hunks vp_1) (S : St g [] fr w) (hm : changeforgetop_TopRenamesAreFollowed t_ path to p_ = some r) :
  Calls Tryz.prog 3 [.agg #[vt_1], .string path, .string to, .agg #[vp_1]].toArray w (fun en w' => ∃ v, en = .returned v ∧ ∃ (g' : Gh), Le g g' ∧ St g' [] fr w' ∧ .bool r = v) := by
 unfold changeforgetop_TopRenamesAreFollowed at hm
 refine calls_enter (fn := Tryz.f3) Tryz.func3 rfl Tryz.ntmps3 (lb rfl) ?_
 intro a F
 replace F : Fr 113 a [(0, .agg #[vt_1]), (1, .string path), (2, .string to), (3, .agg #[vp_1])] := F
 refine wp_seq ?_
 refine wp_region_lit ?_
 refine wl_boxC (wn rfl) rfl rfl rfl F S rfl rfl ?_; clear F a S; rintro b1 a w F S
 refine wl_boxC (wn rfl) rfl rfl rfl F S rfl rfl ?_; clear F a S; rintro b2 a w F S
 refine wE (ev_assign rfl) F S rfl fun a F=>?_
 refine wpList_nil ?_
 refine then_n ?_
 refine wp_seq ?_
 refine wp_region_lit ?_
 refine wE (ev_move rfl) F S rfl fun a F=>?_
 refine wE (ev_move rfl) F S rfl fun a F=>?_
 refine wE (ev_build (parts := [(0, .const (.i6 3)), (1, .tmp 23), (2, .tmp 24)]) (vs := [(0, .i6 3), (1, .string path), (2, .string to)]) rfl (fun w => tb30_0_1_2 3 path to w)) F S rfl fun a F=>?_
 refine wl_alloc (wn rfl) rfl tz30 (cs := [.i6 0, .string ByteArray.empty, .string ByteArray.empty, nilS, nilS]) rfl F S rfl rfl ?_; clear F a S; rintro b3 a w F S
 refine wl_storeC (wn rfl) rfl F S rfl rfl (vs := [.i6 3, .string path, .string to, nilS, nilS]) rfl ts30 (one_cons rfl (one_cons rfl (one_cons rfl (one_cons rfl (one_cons rfl one_nil))))) (k := 0) rfl (lb rfl) (c' := #[.i6 3, .string path, .string to, nilS, nilS]) rfl rfl ?_; clear S; intro w S
 refine wpList_nil ?_
 refine then_n ?_
 refine wp_seq ?_
 refine wp_region_lit ?_
 refine wE (ev_move rfl) F S rfl fun a F=>?_
 refine wE (ev_loadA tu27 rfl (cs := [vp_1]) ts27 rfl (box_ptr (cells := [vp_1]) 1 rfl 0 rfl (lb rfl))) F S rfl fun a F=>?_
 refine wE (ev_build (parts := [(0, .const (.i6 4)), (1, .tmp 26), (4, .tmp 27)]) (vs := [(0, .i6 4), (1, .string to), (4, .agg #[vp_1])]) rfl (fun w => tb30_0_1_4 4 to vp_1 (RepSl.isSl hp_1) w)) F S rfl fun a F=>?_
 refine wl_alloc (wn rfl) rfl tz30 (cs := [.i6 0, .string ByteArray.empty, .string ByteArray.empty, nilS, nilS]) rfl F S rfl rfl ?_; clear F a S; rintro b4 a w F S
 refine wl_storeC (wn rfl) rfl F S rfl rfl (vs := [.i6 4, .string to, .string ByteArray.empty, nilS, vp_1]) rfl ts30 (one_cons rfl (one_cons rfl (one_cons rfl (one_cons rfl (one_cons hp_1.one one_nil))))) (k := 0) rfl (lb rfl) (c' := #[.i6 4, .string to, .string ByteArray.empty, nilS, vp_1]) rfl rfl ?_; clear S; intro w S
 refine wpList_nil ?_
 refine then_n ?_
 refine wp_seq ?_
 refine wp_region_lit ?_
 refine wE (ev_loadA tu30 rfl (cs := [.i6 3, .string path, .string to, nilS, nilS]) ts30 rfl (box_ptr (cells := [.i6 3, .string path, .string to, nilS, nilS]) 1 rfl 0 rfl (lb rfl))) F S rfl fun a F=>?_
 refine wl_lit (l := ([({ Kind := 3, Path := path, To := to, Lines := [], Patch := ({ Hunks := [] } : Patch) } : TreeChange)] : List TreeChange)) (vs := [.agg #[.i6 3, .string path, .string to, nilS, nilS]]) (parts := [(0, .tmp 30)]) (wn rfl) rfl rfl rfl tu35 te30 (sz_cons rfl sz_nil) rfl (Cat.cons (rep_TreeChange_mk (x := ({ Kind := 3, Path := path, To := to, Lines := [], Patch := ({ Hunks := [] } : Patch) } : TreeChange)) (RepSl.nil _) (RepSl.nil _)) (Cat.nil _)) (coa_cons rfl coa_nil) rfl F S rfl rfl ?_; clear F a S
 rintro v1 c1 a w h1 F S
 refine wE (ev_build (parts := [(0, .tmp 31)]) (vs := [(0, v1)]) rfl (fun w => tb37_0 v1 (OwnS.isSl h1) w)) F S rfl fun a F=>?_
 refine wE (ev_loadA tu24 rfl (cs := [vt_1]) ts24 rfl (box_ptr (cells := [vt_1]) 4 rfl 0 rfl (lb rfl))) F S rfl fun a F=>?_
 obtain ⟨g1, l1, S, h2⟩ : ∃ gz, Le g gz ∧ St gz [[bx b4 #[.i6 4, .string to, .string ByteArray.empty, nilS, vp_1] 30], [bx b3 #[.i6 3, .string path, .string to, nilS, nilS] 30], [bx b2 #[vp_1] 27], [bx b1 #[vt_1] 24]] fr w ∧ RepSl gz ([({ Kind := 3, Path := path, To := to, Lines := [], Patch := ({ Hunks := [] } : Patch) } : TreeChange)] : List TreeChange) v1 := ⟨_, Le.add _ _, S.freeze 0 rfl, OwnS.freeze (S.front 0 rfl) h1⟩
 obtain ⟨y1, hy1, hm⟩ := bind_some hm
 refine wl_call0 (wn rfl) rfl F rfl (treepatch_Apply_ok (fr := (fl [[bx b4 #[.i6 4, .string to, .string ByteArray.empty, nilS, vp_1] 30], [bx b3 #[.i6 3, .string path, .string to, nilS, nilS] 30], [bx b2 #[vp_1] 27], [bx b1 #[vt_1] 24]] fr)) ({ Changes := ([({ Kind := 3, Path := path, To := to, Lines := [], Patch := ({ Hunks := [] } : Patch) } : TreeChange)] : List TreeChange) } : TreePatch) v1 h2 t_ vt_1 (ht_1.mono l1) S hy1) rfl tc5 rfl rfl ?_; clear F a S
 rintro _ a w ⟨g2, v2, c2, l2, S, h3, rfl⟩ F; replace S : St g2 [c2, [bx b4 #[.i6 4, .string to, .string ByteArray.empty, nilS, vp_1] 30], [bx b3 #[.i6 3, .string path, .string to, nilS, nilS] 30], [bx b2 #[vp_1] 27], [bx b1 #[vt_1] 24]] fr w := S
 refine wE (ev_move rfl) F S rfl fun a F=>?_
 refine wE (ev_extract rfl rfl) F S rfl fun a F=>?_
 refine wE (ev_extract rfl rfl) F S rfl fun a F=>?_
 refine wl_alloc (wn rfl) rfl tz24 (cs := [nilS]) rfl F S rfl rfl ?_; clear F a S; rintro b5 a w F S
 refine wl_alloc (wn rfl) rfl tz32 (cs := [.i6 0, .i6 0]) rfl F S rfl rfl ?_; clear F a S; rintro b6 a w F S
 refine wl_storeC (wn rfl) rfl F S rfl rfl (vs := [v2]) rfl ts24 (one_cons (OwnS.one h3) one_nil) (k := 1) rfl (lb rfl) (c' := #[v2]) rfl rfl ?_; clear S; intro w S
 refine wl_storeC (wn rfl) rfl F S rfl rfl (vs := [.i6 y1.2.Code, .i6 y1.2.Index]) rfl ts32 (one_cons rfl (one_cons rfl one_nil)) (k := 0) rfl (lb rfl) (c' := #[.i6 y1.2.Code, .i6 y1.2.Index]) rfl rfl ?_; clear S; intro w S
 refine wpList_nil ?_
 refine then_n ?_
 refine wp_seq ?_
 refine wp_seq ?_
 refine wp_region_lit ?_
 refine wE (ev_fieldAddr' tu32 tf32_0 (z := 0) ts3 rfl ⟨_, rfl⟩ rfl) F S rfl fun a F=>?_
 refine wE (ev_load1 tu3 rfl rfl (box_ptr (cells := [.i6 y1.2.Code]) 0 rfl 0 rfl (lb rfl))) F S rfl fun a F=>?_
 refine wE (ev_int rfl rfl (bo_neq _ _ _ _)) F S rfl fun a F=>?_
 refine wpList_nil ?_
 refine then_n ?_
 obtain ⟨hc1, hm⟩ | ⟨hc1, hm⟩ := ite_or hm
 ·refine wp_condT F rfl hc1 ?_
  refine wp_seq ?_
  refine wp_region_lit ?_
  obtain ⟨y2, hy2, hm⟩ := bind_some hm
  refine wl_call0 (wn rfl) rfl F rfl (changeforgetop_h11Works_ok (fr := (fl [[bx b6 #[.i6 y1.2.Code, .i6 y1.2.Index] 32], [bx b5 #[v2] 24], c2, [bx b4 #[.i6 4, .string to, .string ByteArray.empty, nilS, vp_1] 30], [bx b3 #[.i6 3, .string path, .string to, nilS, nilS] 30], [bx b2 #[vp_1] 27], [bx b1 #[vt_1] 24]] fr))  S hy2) rfl tc6 rfl rfl ?_; clear F a S
  rintro _ a w ⟨g3, l3, S, rfl⟩ F; replace S : St g3 [[bx b6 #[.i6 y1.2.Code, .i6 y1.2.Index] 32], [bx b5 #[v2] 24], c2, [bx b4 #[.i6 4, .string to, .string ByteArray.empty, nilS, vp_1] 30], [bx b3 #[.i6 3, .string path, .string to, nilS, nilS] 30], [bx b2 #[vp_1] 27], [bx b1 #[vt_1] 24]] fr w := S
  refine wE (ev_assign rfl) F S rfl fun a F=>?_
  refine wpList_nil ?_
  refine then_n ?_
  refine wp_ret ?_
  refine then_r ?_
  obtain rfl := sinj hm
  refine post_r _ F rfl (ar_cons (resT rfl) ar_nil) ?_
  replace S : St g3 [] fr w := St.tail [] _ S
  exact ⟨_, rfl, g3, ((l1.trans l2).trans l3), S, rfl⟩
 ·refine wp_condF F rfl hc1 ?_
  refine wp_skip ?_
  refine then_n ?_
  refine wp_seq ?_
  refine wp_region_lit ?_
  refine wE (ev_loadA tu24 rfl (cs := [vt_1]) ts24 rfl (box_ptr (cells := [vt_1]) 6 rfl 0 rfl (lb rfl))) F S rfl fun a F=>?_
  refine wE (ev_loadA tu24 rfl (cs := [v2]) ts24 rfl (box_ptr (cells := [v2]) 1 rfl 0 rfl (lb rfl))) F S rfl fun a F=>?_
  obtain ⟨g4, l4, S, h4⟩ : ∃ gz, Le g2 gz ∧ St gz [[bx b6 #[.i6 y1.2.Code, .i6 y1.2.Index] 32], [bx b5 #[v2] 24], [bx b4 #[.i6 4, .string to, .string ByteArray.empty, nilS, vp_1] 30], [bx b3 #[.i6 3, .string path, .string to, nilS, nilS] 30], [bx b2 #[vp_1] 27], [bx b1 #[vt_1] 24]] fr w ∧ RepSl gz y1.1.Files v2 := ⟨_, Le.add _ _, S.freeze 2 rfl, OwnS.freeze (S.front 2 rfl) h3⟩
  obtain ⟨y3, hy3, hm⟩ := bind_some hm
  refine wl_call0 (wn rfl) rfl F rfl (rename_Detect_ok (fr := (fl [[bx b6 #[.i6 y1.2.Code, .i6 y1.2.Index] 32], [bx b5 #[v2] 24], [bx b4 #[.i6 4, .string to, .string ByteArray.empty, nilS, vp_1] 30], [bx b3 #[.i6 3, .string path, .string to, nilS, nilS] 30], [bx b2 #[vp_1] 27], [bx b1 #[vt_1] 24]] fr)) t_ vt_1 (ht_1.mono ((l1.trans l2).trans l4)) y1.1 v2 h4 100 S hy3) rfl tc7 rfl rfl ?_; clear F a S
  rintro _ a w ⟨g5, v3, c3, l5, S, h5, rfl⟩ F; replace S : St g5 [c3, [bx b6 #[.i6 y1.2.Code, .i6 y1.2.Index] 32], [bx b5 #[v2] 24], [bx b4 #[.i6 4, .string to, .string ByteArray.empty, nilS, vp_1] 30], [bx b3 #[.i6 3, .string path, .string to, nilS, nilS] 30], [bx b2 #[vp_1] 27], [bx b1 #[vt_1] 24]] fr w := S
  refine wE (ev_move rfl) F S rfl fun a F=>?_
  refine wE (ev_extract rfl rfl) F S rfl fun a F=>?_
  refine wE (ev_extract rfl rfl) F S rfl fun a F=>?_
  refine wl_alloc (wn rfl) rfl tz32 (cs := [.i6 0, .i6 0]) rfl F S rfl rfl ?_; clear F a S; rintro b7 a w F S
  refine wE (ev_assign rfl) F S rfl fun a F=>?_
  refine wl_storeC (wn rfl) rfl F S rfl rfl (vs := [.i6 y3.2.Code, .i6 y3.2.Index]) rfl ts32 (one_cons rfl (one_cons rfl one_nil)) (k := 0) rfl (lb rfl) (c' := #[.i6 y3.2.Code, .i6 y3.2.Index]) rfl rfl ?_; clear S; intro w S
  refine wpList_nil ?_
  refine then_n ?_
  refine wp_seq ?_
  refine wp_seq ?_
  refine wp_region_lit ?_
  refine wE (ev_fieldAddr' tu32 tf32_0 (z := 0) ts3 rfl ⟨_, rfl⟩ rfl) F S rfl fun a F=>?_
  refine wE (ev_load1 tu3 rfl rfl (box_ptr (cells := [.i6 y3.2.Code]) 0 rfl 0 rfl (lb rfl))) F S rfl fun a F=>?_
  refine wE (ev_int rfl rfl (bo_neq _ _ _ _)) F S rfl fun a F=>?_
  refine wE (ev_move rfl) F S rfl fun a F=>?_
  obtain ⟨x1, hx1, hm⟩ := bind_some hm
  refine wl_cut 4 (fun a w' => w = w' ∧ Fr 113 a [(54, .bool x1), (13, v3), (10, bp b4 0), (9, bp b3 0), (4, bp b1 0), (1, .string path), (2, .string to)]) ?_ ?_
  ·clear hm; obtain ⟨hc2, hm⟩ | ⟨hc2, hm⟩ := ite_or hx1
   ·refine wl_skip rfl rfl rfl rfl (ne_ft hc2) F rfl rfl ?_; clear F a; intro a F
    refine wl_skip rfl rfl rfl rfl (ne_ft hc2) F rfl rfl ?_; clear F a; intro a F
    refine wl_skip rfl rfl rfl rfl (ne_ft hc2) F rfl rfl ?_; clear F a; intro a F
    refine wE (ev_pickT rfl hc2 rfl) F S rfl fun a F=>?_
    obtain rfl := sinj hm
    refine wpList_nil (then_n ?_); exact ⟨rfl, F.sub ⟨rfl, rfl, rfl, rfl, rfl, rfl, rfl, trivial⟩⟩
   ·refine wl_ev (wg F rfl rfl rfl rfl hc2) (ev_move rfl) F S rfl rfl ?_; clear F a; intro a F
    refine wl_ev (wg F rfl rfl rfl rfl hc2) (ev_lenOw h5 rfl tu39) F S rfl rfl ?_; clear F a; intro a F
    refine wl_ev (wg F rfl rfl rfl rfl hc2) (ev_int rfl rfl (bo_neq _ _ _ _)) F S rfl rfl ?_; clear F a; intro a F
    refine wE (ev_pickF rfl hc2 rfl) F S rfl fun a F=>?_
    obtain rfl := sinj hm
    refine wpList_nil (then_n ?_); exact ⟨rfl, F.sub ⟨rfl, rfl, rfl, rfl, rfl, rfl, rfl, trivial⟩⟩
  clear F; rintro a w' ⟨rfl, F⟩
  refine wE (ev_move rfl) F S rfl fun a F=>?_
  obtain ⟨x2, hx2, hm⟩ := bind_some hm
  refine wl_cut 8 (fun a w' => w = w' ∧ Fr 113 a [(63, .bool x2), (10, bp b4 0), (9, bp b3 0), (4, bp b1 0)]) ?_ ?_
  ·clear hm; obtain ⟨hc3, hm⟩ | ⟨hc3, hm⟩ := ite_or hx2
   ·refine wl_skip rfl rfl rfl rfl (ne_ft hc3) F rfl rfl ?_; clear F a; intro a F
    refine wl_skip rfl rfl rfl rfl (ne_ft hc3) F rfl rfl ?_; clear F a; intro a F
    refine wl_skip rfl rfl rfl rfl (ne_ft hc3) F rfl rfl ?_; clear F a; intro a F
    refine wl_skip rfl rfl rfl rfl (ne_ft hc3) F rfl rfl ?_; clear F a; intro a F
    refine wl_skip rfl rfl rfl rfl (ne_ft hc3) F rfl rfl ?_; clear F a; intro a F
    refine wl_skip rfl rfl rfl rfl (ne_ft hc3) F rfl rfl ?_; clear F a; intro a F
    refine wl_skip rfl rfl rfl rfl (ne_ft hc3) F rfl rfl ?_; clear F a; intro a F
    refine wE (ev_pickT rfl hc3 rfl) F S rfl fun a F=>?_
    obtain rfl := sinj hm
    refine wpList_nil (then_n ?_); exact ⟨rfl, F.sub ⟨rfl, rfl, rfl, rfl, trivial⟩⟩
   ·refine wl_ev (wg F rfl rfl rfl rfl hc3) (ev_move rfl) F S rfl rfl ?_; clear F a; intro a F
    obtain ⟨y4, hy4, hm⟩ := bind_some hm
    refine wl_ev (wg F rfl rfl rfl rfl hc3) (ev_idxO h5 hy4 tu39 ts42 rfl rfl) F S rfl rfl ?_; clear F a; intro a F
    obtain ⟨cs1, hr1, hq1⟩ := elemO h5 hy4
    obtain rfl := rep_Arr2_ByteArray hr1
    refine wl_ev (wg F rfl rfl rfl rfl hc3) (ev_loadA tu42 rfl (cs := [.string y4.e0, .string y4.e1]) ts42 rfl (hq1 _ _ 1 rfl)) F S rfl rfl ?_; clear F a; intro a F
    refine wl_ev (wg F rfl rfl rfl rfl hc3) (ev_move rfl) F S rfl rfl ?_; clear F a; intro a F
    refine wl_ev (wg F rfl rfl rfl rfl hc3) (ev_move rfl) F S rfl rfl ?_; clear F a; intro a F
    refine wl_ev (wg F rfl rfl rfl rfl hc3) (ev_build (parts := [(0, .tmp 59), (1, .tmp 60)]) (vs := [(0, .string path), (1, .string to)]) rfl (fun w => tb42_0_1 path to w)) F S rfl rfl ?_; clear F a; intro a F
    refine wl_ev (wg F rfl rfl rfl rfl hc3) (ev_neA tu42 ts9 tqb42 (is := [0, 1]) rfl (xs := [.string y4.e0, .string y4.e1]) (ys := [.string path, .string to]) rfl rfl ⟨_, _, rfl, ⟨_, _, rfl, rfl, leaf_str tu9⟩, ⟨_, _, rfl, ⟨_, _, rfl, rfl, leaf_str tu9⟩, rfl⟩⟩) F S rfl rfl ?_; clear F a; intro a F
    refine wE (ev_pickF rfl hc3 rfl) F S rfl fun a F=>?_
    obtain rfl := sinj hm
    refine wpList_nil (then_n ?_); exact ⟨rfl, F.sub ⟨rfl, rfl, rfl, rfl, trivial⟩⟩
  clear F; rintro a w' ⟨rfl, F⟩
  refine wpList_nil ?_
  refine then_n ?_
  obtain ⟨hc4, hm⟩ | ⟨hc4, hm⟩ := ite_or hm
  ·refine wp_condT F rfl hc4 ?_
   refine wp_seq ?_
   refine wp_region_lit ?_
   refine wE (ev_assign rfl) F S rfl fun a F=>?_
   refine wpList_nil ?_
   refine then_n ?_
   refine wp_ret ?_
   refine then_r ?_
   obtain rfl := sinj hm
   refine post_r _ F rfl (ar_cons (resT rfl) ar_nil) ?_
   replace S : St g5 [] fr w := St.tail [] _ S
   exact ⟨_, rfl, g5, (((l1.trans l2).trans l4).trans l5), S, rfl⟩
  ·refine wp_condF F rfl hc4 ?_
   refine wp_skip ?_
   refine then_n ?_
   refine wp_seq ?_
   refine wp_region_lit ?_
   refine wE (ev_loadA tu30 rfl (cs := [.i6 3, .string path, .string to, nilS, nilS]) ts30 rfl (box_ptr (cells := [.i6 3, .string path, .string to, nilS, nilS]) 5 rfl 0 rfl (lb rfl))) F S rfl fun a F=>?_
   refine wE (ev_loadA tu30 rfl (cs := [.i6 4, .string to, .string ByteArray.empty, nilS, vp_1]) ts30 rfl (box_ptr (cells := [.i6 4, .string to, .string ByteArray.empty, nilS, vp_1]) 4 rfl 0 rfl (lb rfl))) F S rfl fun a F=>?_
   refine wl_lit (l := ([({ Kind := 3, Path := path, To := to, Lines := [], Patch := ({ Hunks := [] } : Patch) } : TreeChange), ({ Kind := 4, Path := to, To := ByteArray.empty, Lines := [], Patch := p_ } : TreeChange)] : List TreeChange)) (vs := [.agg #[.i6 3, .string path, .string to, nilS, nilS], .agg #[.i6 4, .string to, .string ByteArray.empty, nilS, vp_1]]) (parts := [(0, .tmp 65), (1, .tmp 66)]) (wn rfl) rfl rfl rfl tu35 te30 (sz_cons rfl (sz_cons rfl sz_nil)) rfl (Cat.cons (rep_TreeChange_mk (x := ({ Kind := 3, Path := path, To := to, Lines := [], Patch := ({ Hunks := [] } : Patch) } : TreeChange)) (RepSl.nil _) (RepSl.nil _)) (Cat.cons (rep_TreeChange_mk (x := ({ Kind := 4, Path := to, To := ByteArray.empty, Lines := [], Patch := p_ } : TreeChange)) (RepSl.nil _) (hp_1.mono (((l1.trans l2).trans l4).trans l5))) (Cat.nil _))) (coa_cons rfl (coa_cons rfl coa_nil)) rfl F S rfl rfl ?_; clear F a S
   rintro v4 c4 a w h6 F S
   refine wE (ev_build (parts := [(0, .tmp 67)]) (vs := [(0, v4)]) rfl (fun w => tb37_0 v4 (OwnS.isSl h6) w)) F S rfl fun a F=>?_
   refine wE (ev_loadA tu24 rfl (cs := [vt_1]) ts24 rfl (box_ptr (cells := [vt_1]) 8 rfl 0 rfl (lb rfl))) F S rfl fun a F=>?_
   obtain ⟨g6, l6, S, h7⟩ : ∃ gz, Le g5 gz ∧ St gz [[bx b7 #[.i6 y3.2.Code, .i6 y3.2.Index] 32], c3, [bx b6 #[.i6 y1.2.Code, .i6 y1.2.Index] 32], [bx b5 #[v2] 24], [bx b4 #[.i6 4, .string to, .string ByteArray.empty, nilS, vp_1] 30], [bx b3 #[.i6 3, .string path, .string to, nilS, nilS] 30], [bx b2 #[vp_1] 27], [bx b1 #[vt_1] 24]] fr w ∧ RepSl gz ([({ Kind := 3, Path := path, To := to, Lines := [], Patch := ({ Hunks := [] } : Patch) } : TreeChange), ({ Kind := 4, Path := to, To := ByteArray.empty, Lines := [], Patch := p_ } : TreeChange)] : List TreeChange) v4 := ⟨_, Le.add _ _, S.freeze 0 rfl, OwnS.freeze (S.front 0 rfl) h6⟩
   obtain ⟨y5, hy5, hm⟩ := bind_some hm
   refine wl_call0 (wn rfl) rfl F rfl (treepatch_Apply_ok (fr := (fl [[bx b7 #[.i6 y3.2.Code, .i6 y3.2.Index] 32], c3, [bx b6 #[.i6 y1.2.Code, .i6 y1.2.Index] 32], [bx b5 #[v2] 24], [bx b4 #[.i6 4, .string to, .string ByteArray.empty, nilS, vp_1] 30], [bx b3 #[.i6 3, .string path, .string to, nilS, nilS] 30], [bx b2 #[vp_1] 27], [bx b1 #[vt_1] 24]] fr)) ({ Changes := ([({ Kind := 3, Path := path, To := to, Lines := [], Patch := ({ Hunks := [] } : Patch) } : TreeChange), ({ Kind := 4, Path := to, To := ByteArray.empty, Lines := [], Patch := p_ } : TreeChange)] : List TreeChange) } : TreePatch) v4 h7 t_ vt_1 (ht_1.mono ((((l1.trans l2).trans l4).trans l5).trans l6)) S hy5) rfl tc5 rfl rfl ?_; clear F a S
   rintro _ a w ⟨g7, v5, c5, l7, S, h8, rfl⟩ F; replace S : St g7 [c5, [bx b7 #[.i6 y3.2.Code, .i6 y3.2.Index] 32], c3, [bx b6 #[.i6 y1.2.Code, .i6 y1.2.Index] 32], [bx b5 #[v2] 24], [bx b4 #[.i6 4, .string to, .string ByteArray.empty, nilS, vp_1] 30], [bx b3 #[.i6 3, .string path, .string to, nilS, nilS] 30], [bx b2 #[vp_1] 27], [bx b1 #[vt_1] 24]] fr w := S
   refine wE (ev_move rfl) F S rfl fun a F=>?_
   refine wE (ev_extract rfl rfl) F S rfl fun a F=>?_
   refine wE (ev_extract rfl rfl) F S rfl fun a F=>?_
   refine wl_alloc (wn rfl) rfl tz24 (cs := [nilS]) rfl F S rfl rfl ?_; clear F a S; rintro b8 a w F S
   refine wl_alloc (wn rfl) rfl tz32 (cs := [.i6 0, .i6 0]) rfl F S rfl rfl ?_; clear F a S; rintro b9 a w F S
   refine wl_storeC (wn rfl) rfl F S rfl rfl (vs := [v5]) rfl ts24 (one_cons (OwnS.one h8) one_nil) (k := 1) rfl (lb rfl) (c' := #[v5]) rfl rfl ?_; clear S; intro w S
   refine wl_storeC (wn rfl) rfl F S rfl rfl (vs := [.i6 y5.2.Code, .i6 y5.2.Index]) rfl ts32 (one_cons rfl (one_cons rfl one_nil)) (k := 0) rfl (lb rfl) (c' := #[.i6 y5.2.Code, .i6 y5.2.Index]) rfl rfl ?_; clear S; intro w S
   refine wpList_nil ?_
   refine then_n ?_
   refine wp_seq ?_
   refine wp_region_lit ?_
   refine wE (ev_loadA tu30 rfl (cs := [.i6 3, .string path, .string to, nilS, nilS]) ts30 rfl (box_ptr (cells := [.i6 3, .string path, .string to, nilS, nilS]) 8 rfl 0 rfl (lb rfl))) F S rfl fun a F=>?_
   refine wE (ev_loadA tu30 rfl (cs := [.i6 4, .string to, .string ByteArray.empty, nilS, vp_1]) ts30 rfl (box_ptr (cells := [.i6 4, .string to, .string ByteArray.empty, nilS, vp_1]) 7 rfl 0 rfl (lb rfl))) F S rfl fun a F=>?_
   obtain ⟨y6, hy6, hm⟩ := bind_some hm
   refine wl_call0 (wn rfl) rfl F rfl (treecommute_Commute_ok (fr := (fl [[bx b9 #[.i6 y5.2.Code, .i6 y5.2.Index] 32], [bx b8 #[v5] 24], c5, [bx b7 #[.i6 y3.2.Code, .i6 y3.2.Index] 32], c3, [bx b6 #[.i6 y1.2.Code, .i6 y1.2.Index] 32], [bx b5 #[v2] 24], [bx b4 #[.i6 4, .string to, .string ByteArray.empty, nilS, vp_1] 30], [bx b3 #[.i6 3, .string path, .string to, nilS, nilS] 30], [bx b2 #[vp_1] 27], [bx b1 #[vt_1] 24]] fr)) ({ Kind := 3, Path := path, To := to, Lines := [], Patch := ({ Hunks := [] } : Patch) } : TreeChange) (nilS) (RepSl.nil _) (nilS) (RepSl.nil _) ({ Kind := 4, Path := to, To := ByteArray.empty, Lines := [], Patch := p_ } : TreeChange) (nilS) (RepSl.nil _) vp_1 (hp_1.mono (((((l1.trans l2).trans l4).trans l5).trans l6).trans l7)) S hy6) rfl tc8 rfl rfl ?_; clear F a S
   rintro _ a w ⟨g8, v6, v7, v8, v9, l8, S, h9, h10, h11, h12, rfl⟩ F; replace S : St g8 [[bx b9 #[.i6 y5.2.Code, .i6 y5.2.Index] 32], [bx b8 #[v5] 24], c5, [bx b7 #[.i6 y3.2.Code, .i6 y3.2.Index] 32], c3, [bx b6 #[.i6 y1.2.Code, .i6 y1.2.Index] 32], [bx b5 #[v2] 24], [bx b4 #[.i6 4, .string to, .string ByteArray.empty, nilS, vp_1] 30], [bx b3 #[.i6 3, .string path, .string to, nilS, nilS] 30], [bx b2 #[vp_1] 27], [bx b1 #[vt_1] 24]] fr w := S
   refine wE (ev_move rfl) F S rfl fun a F=>?_
   refine wE (ev_extract rfl rfl) F S rfl fun a F=>?_
   refine wE (ev_extract rfl rfl) F S rfl fun a F=>?_
   refine wE (ev_extract rfl rfl) F S rfl fun a F=>?_
   refine wE (ev_extract rfl rfl) F S rfl fun a F=>?_
   refine wl_alloc (wn rfl) rfl tz30 (cs := [.i6 0, .string ByteArray.empty, .string ByteArray.empty, nilS, nilS]) rfl F S rfl rfl ?_; clear F a S; rintro b10 a w F S
   refine wl_alloc (wn rfl) rfl tz30 (cs := [.i6 0, .string ByteArray.empty, .string ByteArray.empty, nilS, nilS]) rfl F S rfl rfl ?_; clear F a S; rintro b11 a w F S
   refine wl_alloc (wn rfl) rfl tz32 (cs := [.i6 0, .i6 0]) rfl F S rfl rfl ?_; clear F a S; rintro b12 a w F S
   refine wl_storeC (wn rfl) rfl F S rfl rfl (vs := [.i6 y6.1.Kind, .string y6.1.Path, .string y6.1.To, v6, v7]) rfl ts30 (one_cons rfl (one_cons rfl (one_cons rfl (one_cons h9.one (one_cons h10.one one_nil))))) (k := 2) rfl (lb rfl) (c' := #[.i6 y6.1.Kind, .string y6.1.Path, .string y6.1.To, v6, v7]) rfl rfl ?_; clear S; intro w S
   refine wl_storeC (wn rfl) rfl F S rfl rfl (vs := [.i6 y6.2.1.Kind, .string y6.2.1.Path, .string y6.2.1.To, v8, v9]) rfl ts30 (one_cons rfl (one_cons rfl (one_cons rfl (one_cons h11.one (one_cons h12.one one_nil))))) (k := 1) rfl (lb rfl) (c' := #[.i6 y6.2.1.Kind, .string y6.2.1.Path, .string y6.2.1.To, v8, v9]) rfl rfl ?_; clear S; intro w S
   refine wE (ev_assign rfl) F S rfl fun a F=>?_
   refine wl_storeC (wn rfl) rfl F S rfl rfl (vs := [.i6 y6.2.2.2.Code, .i6 y6.2.2.2.Index]) rfl ts32 (one_cons rfl (one_cons rfl one_nil)) (k := 0) rfl (lb rfl) (c' := #[.i6 y6.2.2.2.Code, .i6 y6.2.2.2.Index]) rfl rfl ?_; clear S; intro w S
   refine wpList_nil ?_
   refine then_n ?_
   refine wp_seq ?_
   refine wp_seq ?_
   refine wp_region_lit ?_
   refine wE (ev_fieldAddr' tu32 tf32_0 (z := 0) ts3 rfl ⟨_, rfl⟩ rfl) F S rfl fun a F=>?_
   refine wE (ev_load1 tu3 rfl rfl (box_ptr (cells := [.i6 y5.2.Code]) 3 rfl 0 rfl (lb rfl))) F S rfl fun a F=>?_
   refine wE (ev_int rfl rfl (bo_neq _ _ _ _)) F S rfl fun a F=>?_
   refine wpList_nil ?_
   refine then_n ?_
   obtain ⟨hc5, hm⟩ | ⟨hc5, hm⟩ := ite_or hm
   ·refine wp_condT F rfl hc5 ?_
    refine wp_seq ?_
    refine wp_region_lit ?_
    obtain ⟨y7, hy7, hm⟩ := bind_some hm
    refine wl_call0 (wn rfl) rfl F rfl (changeforgetop_h11Works_ok (fr := (fl [[bx b12 #[.i6 y6.2.2.2.Code, .i6 y6.2.2.2.Index] 32], [bx b11 #[.i6 y6.2.1.Kind, .string y6.2.1.Path, .string y6.2.1.To, v8, v9] 30], [bx b10 #[.i6 y6.1.Kind, .string y6.1.Path, .string y6.1.To, v6, v7] 30], [bx b9 #[.i6 y5.2.Code, .i6 y5.2.Index] 32], [bx b8 #[v5] 24], c5, [bx b7 #[.i6 y3.2.Code, .i6 y3.2.Index] 32], c3, [bx b6 #[.i6 y1.2.Code, .i6 y1.2.Index] 32], [bx b5 #[v2] 24], [bx b4 #[.i6 4, .string to, .string ByteArray.empty, nilS, vp_1] 30], [bx b3 #[.i6 3, .string path, .string to, nilS, nilS] 30], [bx b2 #[vp_1] 27], [bx b1 #[vt_1] 24]] fr))  S hy7) rfl tc6 rfl rfl ?_; clear F a S
    rintro _ a w ⟨g9, l9, S, rfl⟩ F; replace S : St g9 [[bx b12 #[.i6 y6.2.2.2.Code, .i6 y6.2.2.2.Index] 32], [bx b11 #[.i6 y6.2.1.Kind, .string y6.2.1.Path, .string y6.2.1.To, v8, v9] 30], [bx b10 #[.i6 y6.1.Kind, .string y6.1.Path, .string y6.1.To, v6, v7] 30], [bx b9 #[.i6 y5.2.Code, .i6 y5.2.Index] 32], [bx b8 #[v5] 24], c5, [bx b7 #[.i6 y3.2.Code, .i6 y3.2.Index] 32], c3, [bx b6 #[.i6 y1.2.Code, .i6 y1.2.Index] 32], [bx b5 #[v2] 24], [bx b4 #[.i6 4, .string to, .string ByteArray.empty, nilS, vp_1] 30], [bx b3 #[.i6 3, .string path, .string to, nilS, nilS] 30], [bx b2 #[vp_1] 27], [bx b1 #[vt_1] 24]] fr w := S
    refine wE (ev_assign rfl) F S rfl fun a F=>?_
    refine wpList_nil ?_
    refine then_n ?_
    refine wp_ret ?_
    refine then_r ?_
    obtain rfl := sinj hm
    refine post_r _ F rfl (ar_cons (resT rfl) ar_nil) ?_
    replace S : St g9 [] fr w := St.tail [] _ S
    exact ⟨_, rfl, g9, (((((((l1.trans l2).trans l4).trans l5).trans l6).trans l7).trans l8).trans l9), S, rfl⟩
   ·refine wp_condF F rfl hc5 ?_
    refine wp_skip ?_
    refine then_n ?_
    refine wp_seq ?_
    refine wp_region_lit ?_
    refine wE (ev_loadA tu30 rfl (cs := [.i6 y6.1.Kind, .string y6.1.Path, .string y6.1.To, v6, v7]) ts30 rfl (box_ptr (cells := [.i6 y6.1.Kind, .string y6.1.Path, .string y6.1.To, v6, v7]) 2 rfl 0 rfl (lb rfl))) F S rfl fun a F=>?_
    refine wE (ev_loadA tu30 rfl (cs := [.i6 y6.2.1.Kind, .string y6.2.1.Path, .string y6.2.1.To, v8, v9]) ts30 rfl (box_ptr (cells := [.i6 y6.2.1.Kind, .string y6.2.1.Path, .string y6.2.1.To, v8, v9]) 1 rfl 0 rfl (lb rfl))) F S rfl fun a F=>?_
    refine wl_lit (l := ([y6.1, y6.2.1] : List TreeChange)) (vs := [.agg #[.i6 y6.1.Kind, .string y6.1.Path, .string y6.1.To, v6, v7], .agg #[.i6 y6.2.1.Kind, .string y6.2.1.Path, .string y6.2.1.To, v8, v9]]) (parts := [(0, .tmp 86), (1, .tmp 87)]) (wn rfl) rfl rfl rfl tu35 te30 (sz_cons rfl (sz_cons rfl sz_nil)) rfl (Cat.cons (rep_TreeChange_mk (x := y6.1) h9 h10) (Cat.cons (rep_TreeChange_mk (x := y6.2.1) h11 h12) (Cat.nil _))) (coa_cons rfl (coa_cons rfl coa_nil)) rfl F S rfl rfl ?_; clear F a S
    rintro v10 c6 a w h13 F S
    refine wE (ev_build (parts := [(0, .tmp 88)]) (vs := [(0, v10)]) rfl (fun w => tb37_0 v10 (OwnS.isSl h13) w)) F S rfl fun a F=>?_
    refine wE (ev_loadA tu24 rfl (cs := [vt_1]) ts24 rfl (box_ptr (cells := [vt_1]) 14 rfl 0 rfl (lb rfl))) F S rfl fun a F=>?_
    obtain ⟨g10, l10, S, h14⟩ : ∃ gz, Le g8 gz ∧ St gz [[bx b12 #[.i6 y6.2.2.2.Code, .i6 y6.2.2.2.Index] 32], [bx b11 #[.i6 y6.2.1.Kind, .string y6.2.1.Path, .string y6.2.1.To, v8, v9] 30], [bx b10 #[.i6 y6.1.Kind, .string y6.1.Path, .string y6.1.To, v6, v7] 30], [bx b9 #[.i6 y5.2.Code, .i6 y5.2.Index] 32], [bx b8 #[v5] 24], c5, [bx b7 #[.i6 y3.2.Code, .i6 y3.2.Index] 32], c3, [bx b6 #[.i6 y1.2.Code, .i6 y1.2.Index] 32], [bx b5 #[v2] 24], [bx b4 #[.i6 4, .string to, .string ByteArray.empty, nilS, vp_1] 30], [bx b3 #[.i6 3, .string path, .string to, nilS, nilS] 30], [bx b2 #[vp_1] 27], [bx b1 #[vt_1] 24]] fr w ∧ RepSl gz ([y6.1, y6.2.1] : List TreeChange) v10 := ⟨_, Le.add _ _, S.freeze 0 rfl, OwnS.freeze (S.front 0 rfl) h13⟩
    obtain ⟨y8, hy8, hm⟩ := bind_some hm
    refine wl_call0 (wn rfl) rfl F rfl (treepatch_Apply_ok (fr := (fl [[bx b12 #[.i6 y6.2.2.2.Code, .i6 y6.2.2.2.Index] 32], [bx b11 #[.i6 y6.2.1.Kind, .string y6.2.1.Path, .string y6.2.1.To, v8, v9] 30], [bx b10 #[.i6 y6.1.Kind, .string y6.1.Path, .string y6.1.To, v6, v7] 30], [bx b9 #[.i6 y5.2.Code, .i6 y5.2.Index] 32], [bx b8 #[v5] 24], c5, [bx b7 #[.i6 y3.2.Code, .i6 y3.2.Index] 32], c3, [bx b6 #[.i6 y1.2.Code, .i6 y1.2.Index] 32], [bx b5 #[v2] 24], [bx b4 #[.i6 4, .string to, .string ByteArray.empty, nilS, vp_1] 30], [bx b3 #[.i6 3, .string path, .string to, nilS, nilS] 30], [bx b2 #[vp_1] 27], [bx b1 #[vt_1] 24]] fr)) ({ Changes := ([y6.1, y6.2.1] : List TreeChange) } : TreePatch) v10 h14 t_ vt_1 (ht_1.mono (((((((l1.trans l2).trans l4).trans l5).trans l6).trans l7).trans l8).trans l10)) S hy8) rfl tc5 rfl rfl ?_; clear F a S
    rintro _ a w ⟨g11, v11, c7, l11, S, h15, rfl⟩ F; replace S : St g11 [c7, [bx b12 #[.i6 y6.2.2.2.Code, .i6 y6.2.2.2.Index] 32], [bx b11 #[.i6 y6.2.1.Kind, .string y6.2.1.Path, .string y6.2.1.To, v8, v9] 30], [bx b10 #[.i6 y6.1.Kind, .string y6.1.Path, .string y6.1.To, v6, v7] 30], [bx b9 #[.i6 y5.2.Code, .i6 y5.2.Index] 32], [bx b8 #[v5] 24], c5, [bx b7 #[.i6 y3.2.Code, .i6 y3.2.Index] 32], c3, [bx b6 #[.i6 y1.2.Code, .i6 y1.2.Index] 32], [bx b5 #[v2] 24], [bx b4 #[.i6 4, .string to, .string ByteArray.empty, nilS, vp_1] 30], [bx b3 #[.i6 3, .string path, .string to, nilS, nilS] 30], [bx b2 #[vp_1] 27], [bx b1 #[vt_1] 24]] fr w := S
    refine wE (ev_move rfl) F S rfl fun a F=>?_
    refine wE (ev_extract rfl rfl) F S rfl fun a F=>?_
    refine wE (ev_extract rfl rfl) F S rfl fun a F=>?_
    refine wl_alloc (wn rfl) rfl tz24 (cs := [nilS]) rfl F S rfl rfl ?_; clear F a S; rintro b13 a w F S
    refine wl_alloc (wn rfl) rfl tz32 (cs := [.i6 0, .i6 0]) rfl F S rfl rfl ?_; clear F a S; rintro b14 a w F S
    refine wl_storeC (wn rfl) rfl F S rfl rfl (vs := [v11]) rfl ts24 (one_cons (OwnS.one h15) one_nil) (k := 1) rfl (lb rfl) (c' := #[v11]) rfl rfl ?_; clear S; intro w S
    refine wl_storeC (wn rfl) rfl F S rfl rfl (vs := [.i6 y8.2.Code, .i6 y8.2.Index]) rfl ts32 (one_cons rfl (one_cons rfl one_nil)) (k := 0) rfl (lb rfl) (c' := #[.i6 y8.2.Code, .i6 y8.2.Index]) rfl rfl ?_; clear S; intro w S
    refine wpList_nil ?_
    replace F := F.sub (e' := [(22, bp b14 0), (21, bp b13 0), (19, .bool y6.2.2.1), (20, bp b12 0), (15, bp b8 0)]) ⟨rfl, rfl, rfl, rfl, rfl, trivial⟩
    refine then_n ?_
    refine wp_seq ?_
    refine wp_region_lit ?_
    refine wE (ev_fieldAddr' tu32 tf32_0 (z := 0) ts3 rfl ⟨_, rfl⟩ rfl) F S rfl fun a F=>?_
    refine wE (ev_load1 tu3 rfl rfl (box_ptr (cells := [.i6 y6.2.2.2.Code]) 3 rfl 0 rfl (lb rfl))) F S rfl fun a F=>?_
    refine wE (ev_int rfl rfl (bo_eql _ _ _ _)) F S rfl fun a F=>?_
    refine wE (ev_move rfl) F S rfl fun a F=>?_
    obtain ⟨x3, hx3, hm⟩ := bind_some hm
    refine wl_cut 2 (fun a w' => w = w' ∧ Fr 113 a [(99, .bool x3), (22, bp b14 0), (21, bp b13 0), (15, bp b8 0)]) ?_ ?_
    ·clear hm; obtain ⟨hc6, hm⟩ | ⟨hc6, hm⟩ := ite_or hx3
     ·refine wl_ev (wg F rfl rfl rfl rfl hc6) (ev_move rfl) F S rfl rfl ?_; clear F a; intro a F
      refine wE (ev_pickT rfl hc6 rfl) F S rfl fun a F=>?_
      obtain rfl := sinj hm
      refine wpList_nil (then_n ?_); exact ⟨rfl, F.sub ⟨rfl, rfl, rfl, rfl, trivial⟩⟩
     ·refine wl_skip rfl rfl rfl rfl (ne_tf hc6) F rfl rfl ?_; clear F a; intro a F
      refine wE (ev_pickF rfl hc6 rfl) F S rfl fun a F=>?_
      obtain rfl := sinj hm
      refine wpList_nil (then_n ?_); exact ⟨rfl, F.sub ⟨rfl, rfl, rfl, rfl, trivial⟩⟩
    clear F; rintro a w' ⟨rfl, F⟩
    refine wE (ev_move rfl) F S rfl fun a F=>?_
    obtain ⟨x4, hx4, hm⟩ := bind_some hm
    refine wl_cut 4 (fun a w' => w = w' ∧ Fr 113 a [(104, .bool x4), (21, bp b13 0), (15, bp b8 0)]) ?_ ?_
    ·clear hm; obtain ⟨hc7, hm⟩ | ⟨hc7, hm⟩ := ite_or hx4
     ·refine wl_ev (wg F rfl rfl rfl rfl hc7) (ev_fieldAddr' tu32 tf32_0 (z := 0) ts3 rfl ⟨_, rfl⟩ rfl) F S rfl rfl ?_; clear F a; intro a F
      refine wl_ev (wg F rfl rfl rfl rfl hc7) (ev_load1 tu3 rfl rfl (box_ptr (cells := [.i6 y8.2.Code]) 0 rfl 0 rfl (lb rfl))) F S rfl rfl ?_; clear F a; intro a F
      refine wl_ev (wg F rfl rfl rfl rfl hc7) (ev_int rfl rfl (bo_eql _ _ _ _)) F S rfl rfl ?_; clear F a; intro a F
      refine wE (ev_pickT rfl hc7 rfl) F S rfl fun a F=>?_
      obtain rfl := sinj hm
      refine wpList_nil (then_n ?_); exact ⟨rfl, F.sub ⟨rfl, rfl, rfl, trivial⟩⟩
     ·refine wl_skip rfl rfl rfl rfl (ne_tf hc7) F rfl rfl ?_; clear F a; intro a F
      refine wl_skip rfl rfl rfl rfl (ne_tf hc7) F rfl rfl ?_; clear F a; intro a F
      refine wl_skip rfl rfl rfl rfl (ne_tf hc7) F rfl rfl ?_; clear F a; intro a F
      refine wE (ev_pickF rfl hc7 rfl) F S rfl fun a F=>?_
      obtain rfl := sinj hm
      refine wpList_nil (then_n ?_); exact ⟨rfl, F.sub ⟨rfl, rfl, rfl, trivial⟩⟩
    clear F; rintro a w' ⟨rfl, F⟩
    refine wE (ev_move rfl) F S rfl fun a F=>?_
    obtain ⟨g12, l12, S, h16⟩ : ∃ gz, Le g11 gz ∧ St gz [[bx b14 #[.i6 y8.2.Code, .i6 y8.2.Index] 32], [bx b13 #[v11] 24], [bx b12 #[.i6 y6.2.2.2.Code, .i6 y6.2.2.2.Index] 32], [bx b11 #[.i6 y6.2.1.Kind, .string y6.2.1.Path, .string y6.2.1.To, v8, v9] 30], [bx b10 #[.i6 y6.1.Kind, .string y6.1.Path, .string y6.1.To, v6, v7] 30], [bx b9 #[.i6 y5.2.Code, .i6 y5.2.Index] 32], [bx b8 #[v5] 24], c5, [bx b7 #[.i6 y3.2.Code, .i6 y3.2.Index] 32], c3, [bx b6 #[.i6 y1.2.Code, .i6 y1.2.Index] 32], [bx b5 #[v2] 24], [bx b4 #[.i6 4, .string to, .string ByteArray.empty, nilS, vp_1] 30], [bx b3 #[.i6 3, .string path, .string to, nilS, nilS] 30], [bx b2 #[vp_1] 27], [bx b1 #[vt_1] 24]] fr w ∧ RepSl gz y8.1.Files v11 := ⟨_, Le.add _ _, S.freeze 2 rfl, OwnS.freeze (S.front 2 rfl) h15⟩
    obtain ⟨g13, l13, S, h17⟩ : ∃ gz, Le g12 gz ∧ St gz [[bx b14 #[.i6 y8.2.Code, .i6 y8.2.Index] 32], [bx b13 #[v11] 24], [bx b12 #[.i6 y6.2.2.2.Code, .i6 y6.2.2.2.Index] 32], [bx b11 #[.i6 y6.2.1.Kind, .string y6.2.1.Path, .string y6.2.1.To, v8, v9] 30], [bx b10 #[.i6 y6.1.Kind, .string y6.1.Path, .string y6.1.To, v6, v7] 30], [bx b9 #[.i6 y5.2.Code, .i6 y5.2.Index] 32], [bx b8 #[v5] 24], [bx b7 #[.i6 y3.2.Code, .i6 y3.2.Index] 32], c3, [bx b6 #[.i6 y1.2.Code, .i6 y1.2.Index] 32], [bx b5 #[v2] 24], [bx b4 #[.i6 4, .string to, .string ByteArray.empty, nilS, vp_1] 30], [bx b3 #[.i6 3, .string path, .string to, nilS, nilS] 30], [bx b2 #[vp_1] 27], [bx b1 #[vt_1] 24]] fr w ∧ RepSl gz y5.1.Files v5 := ⟨_, Le.add _ _, S.freeze 7 rfl, OwnS.freeze (S.front 7 rfl) (h8.mono (((l8.trans l10).trans l11).trans l12))⟩
    obtain ⟨x5, hx5, hm⟩ := bind_some hm
    refine wl_cut 4 (fun a w => ∃ g14, Fr 113 a [(109, .bool x5)] ∧ Le g13 g14 ∧ St g14 [[bx b14 #[.i6 y8.2.Code, .i6 y8.2.Index] 32], [bx b13 #[v11] 24], [bx b12 #[.i6 y6.2.2.2.Code, .i6 y6.2.2.2.Index] 32], [bx b11 #[.i6 y6.2.1.Kind, .string y6.2.1.Path, .string y6.2.1.To, v8, v9] 30], [bx b10 #[.i6 y6.1.Kind, .string y6.1.Path, .string y6.1.To, v6, v7] 30], [bx b9 #[.i6 y5.2.Code, .i6 y5.2.Index] 32], [bx b8 #[v5] 24], [bx b7 #[.i6 y3.2.Code, .i6 y3.2.Index] 32], c3, [bx b6 #[.i6 y1.2.Code, .i6 y1.2.Index] 32], [bx b5 #[v2] 24], [bx b4 #[.i6 4, .string to, .string ByteArray.empty, nilS, vp_1] 30], [bx b3 #[.i6 3, .string path, .string to, nilS, nilS] 30], [bx b2 #[vp_1] 27], [bx b1 #[vt_1] 24]] fr w) ?_ ?_
    ·clear hm; obtain ⟨hc8, hm⟩ | ⟨hc8, hm⟩ := ite_or hx5
     ·refine wl_ev (wg F rfl rfl rfl rfl hc8) (ev_loadA tu24 rfl (cs := [v5]) ts24 rfl (box_ptr (cells := [v5]) 6 rfl 0 rfl (lb rfl))) F S rfl rfl ?_; clear F a; intro a F
      refine wl_ev (wg F rfl rfl rfl rfl hc8) (ev_loadA tu24 rfl (cs := [v11]) ts24 rfl (box_ptr (cells := [v11]) 1 rfl 0 rfl (lb rfl))) F S rfl rfl ?_; clear F a; intro a F
      obtain ⟨y9, hy9, hm⟩ := bind_some hm
      refine wl_call0 (wg F rfl rfl rfl rfl hc8) rfl F rfl (changeforgeequal_Tree_ok (fr := (fl [[bx b14 #[.i6 y8.2.Code, .i6 y8.2.Index] 32], [bx b13 #[v11] 24], [bx b12 #[.i6 y6.2.2.2.Code, .i6 y6.2.2.2.Index] 32], [bx b11 #[.i6 y6.2.1.Kind, .string y6.2.1.Path, .string y6.2.1.To, v8, v9] 30], [bx b10 #[.i6 y6.1.Kind, .string y6.1.Path, .string y6.1.To, v6, v7] 30], [bx b9 #[.i6 y5.2.Code, .i6 y5.2.Index] 32], [bx b8 #[v5] 24], [bx b7 #[.i6 y3.2.Code, .i6 y3.2.Index] 32], c3, [bx b6 #[.i6 y1.2.Code, .i6 y1.2.Index] 32], [bx b5 #[v2] 24], [bx b4 #[.i6 4, .string to, .string ByteArray.empty, nilS, vp_1] 30], [bx b3 #[.i6 3, .string path, .string to, nilS, nilS] 30], [bx b2 #[vp_1] 27], [bx b1 #[vt_1] 24]] fr)) y5.1 v5 h17 y8.1 v11 (h16.mono l13) S hy9) rfl tc9 rfl rfl ?_; clear F a S
      rintro _ a w ⟨g15, l15, S, rfl⟩ F; replace S : St g15 [[bx b14 #[.i6 y8.2.Code, .i6 y8.2.Index] 32], [bx b13 #[v11] 24], [bx b12 #[.i6 y6.2.2.2.Code, .i6 y6.2.2.2.Index] 32], [bx b11 #[.i6 y6.2.1.Kind, .string y6.2.1.Path, .string y6.2.1.To, v8, v9] 30], [bx b10 #[.i6 y6.1.Kind, .string y6.1.Path, .string y6.1.To, v6, v7] 30], [bx b9 #[.i6 y5.2.Code, .i6 y5.2.Index] 32], [bx b8 #[v5] 24], [bx b7 #[.i6 y3.2.Code, .i6 y3.2.Index] 32], c3, [bx b6 #[.i6 y1.2.Code, .i6 y1.2.Index] 32], [bx b5 #[v2] 24], [bx b4 #[.i6 4, .string to, .string ByteArray.empty, nilS, vp_1] 30], [bx b3 #[.i6 3, .string path, .string to, nilS, nilS] 30], [bx b2 #[vp_1] 27], [bx b1 #[vt_1] 24]] fr w := S
      refine wE (ev_pickT rfl hc8 rfl) F S rfl fun a F=>?_
      obtain rfl := sinj hm
      refine wpList_nil (then_n ?_); exact ⟨g15, F.sub ⟨rfl, trivial⟩, l15, S⟩
     ·refine wl_skip rfl rfl rfl rfl (ne_tf hc8) F rfl rfl ?_; clear F a; intro a F
      refine wl_skip rfl rfl rfl rfl (ne_tf hc8) F rfl rfl ?_; clear F a; intro a F
      refine wl_skip rfl rfl rfl rfl (ne_tf hc8) F rfl rfl ?_; clear F a; intro a F
      refine wE (ev_pickF rfl hc8 rfl) F S rfl fun a F=>?_
      obtain rfl := sinj hm
      refine wpList_nil (then_n ?_); exact ⟨g13, F.sub ⟨rfl, trivial⟩, (Le.refl _), S⟩
    clear F S; rintro a w ⟨g14, F, l14, S⟩
    refine wE (ev_move rfl) F S rfl fun a F=>?_
    obtain ⟨x6, hx6, hm⟩ := bind_some hm
    refine wl_cut 2 (fun a w => ∃ g16, Fr 113 a [(112, .bool x6)] ∧ Le g14 g16 ∧ St g16 [[bx b14 #[.i6 y8.2.Code, .i6 y8.2.Index] 32], [bx b13 #[v11] 24], [bx b12 #[.i6 y6.2.2.2.Code, .i6 y6.2.2.2.Index] 32], [bx b11 #[.i6 y6.2.1.Kind, .string y6.2.1.Path, .string y6.2.1.To, v8, v9] 30], [bx b10 #[.i6 y6.1.Kind, .string y6.1.Path, .string y6.1.To, v6, v7] 30], [bx b9 #[.i6 y5.2.Code, .i6 y5.2.Index] 32], [bx b8 #[v5] 24], [bx b7 #[.i6 y3.2.Code, .i6 y3.2.Index] 32], c3, [bx b6 #[.i6 y1.2.Code, .i6 y1.2.Index] 32], [bx b5 #[v2] 24], [bx b4 #[.i6 4, .string to, .string ByteArray.empty, nilS, vp_1] 30], [bx b3 #[.i6 3, .string path, .string to, nilS, nilS] 30], [bx b2 #[vp_1] 27], [bx b1 #[vt_1] 24]] fr w) ?_ ?_
    ·clear hm; obtain ⟨hc9, hm⟩ | ⟨hc9, hm⟩ := ite_or hx6
     ·obtain ⟨y10, hy10, hm⟩ := bind_some hm
      refine wl_call0 (wg F rfl rfl rfl rfl hc9) rfl F rfl (changeforgetop_h11Works_ok (fr := (fl [[bx b14 #[.i6 y8.2.Code, .i6 y8.2.Index] 32], [bx b13 #[v11] 24], [bx b12 #[.i6 y6.2.2.2.Code, .i6 y6.2.2.2.Index] 32], [bx b11 #[.i6 y6.2.1.Kind, .string y6.2.1.Path, .string y6.2.1.To, v8, v9] 30], [bx b10 #[.i6 y6.1.Kind, .string y6.1.Path, .string y6.1.To, v6, v7] 30], [bx b9 #[.i6 y5.2.Code, .i6 y5.2.Index] 32], [bx b8 #[v5] 24], [bx b7 #[.i6 y3.2.Code, .i6 y3.2.Index] 32], c3, [bx b6 #[.i6 y1.2.Code, .i6 y1.2.Index] 32], [bx b5 #[v2] 24], [bx b4 #[.i6 4, .string to, .string ByteArray.empty, nilS, vp_1] 30], [bx b3 #[.i6 3, .string path, .string to, nilS, nilS] 30], [bx b2 #[vp_1] 27], [bx b1 #[vt_1] 24]] fr))  S hy10) rfl tc6 rfl rfl ?_; clear F a S
      rintro _ a w ⟨g17, l17, S, rfl⟩ F; replace S : St g17 [[bx b14 #[.i6 y8.2.Code, .i6 y8.2.Index] 32], [bx b13 #[v11] 24], [bx b12 #[.i6 y6.2.2.2.Code, .i6 y6.2.2.2.Index] 32], [bx b11 #[.i6 y6.2.1.Kind, .string y6.2.1.Path, .string y6.2.1.To, v8, v9] 30], [bx b10 #[.i6 y6.1.Kind, .string y6.1.Path, .string y6.1.To, v6, v7] 30], [bx b9 #[.i6 y5.2.Code, .i6 y5.2.Index] 32], [bx b8 #[v5] 24], [bx b7 #[.i6 y3.2.Code, .i6 y3.2.Index] 32], c3, [bx b6 #[.i6 y1.2.Code, .i6 y1.2.Index] 32], [bx b5 #[v2] 24], [bx b4 #[.i6 4, .string to, .string ByteArray.empty, nilS, vp_1] 30], [bx b3 #[.i6 3, .string path, .string to, nilS, nilS] 30], [bx b2 #[vp_1] 27], [bx b1 #[vt_1] 24]] fr w := S
      refine wE (ev_pickT rfl hc9 rfl) F S rfl fun a F=>?_
      obtain rfl := sinj hm
      refine wpList_nil (then_n ?_); exact ⟨g17, F.sub ⟨rfl, trivial⟩, l17, S⟩
     ·refine wl_skip rfl rfl rfl rfl (ne_tf hc9) F rfl rfl ?_; clear F a; intro a F
      refine wE (ev_pickF rfl hc9 rfl) F S rfl fun a F=>?_
      obtain rfl := sinj hm
      refine wpList_nil (then_n ?_); exact ⟨g14, F.sub ⟨rfl, trivial⟩, (Le.refl _), S⟩
    clear F S; rintro a w ⟨g16, F, l16, S⟩
    refine wE (ev_assign rfl) F S rfl fun a F=>?_
    refine wpList_nil ?_
    refine then_n ?_
    refine wp_ret ?_
    obtain rfl := sinj hm
    refine post_r _ F rfl (ar_cons (resT rfl) ar_nil) ?_
    replace S : St g16 [] fr w := St.tail [] _ S
    exact ⟨_, rfl, g16, ((((((((((((l1.trans l2).trans l4).trans l5).trans l6).trans l7).trans l8).trans l10).trans l11).trans l12).trans l13).trans l14).trans l16), S, rfl⟩
end Go.Dc
