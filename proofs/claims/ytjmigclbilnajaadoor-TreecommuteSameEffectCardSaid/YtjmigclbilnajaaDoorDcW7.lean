/- Walks: each function comes to what its model says. -/
import Derived.Test.YtjmigclbilnajaaDoorDcTab
import Derived.Test.YtjmigclbilnajaaDoorDcM
import Derived.Test.YtjmigclbilnajaaDoorDcW3
import Derived.Test.YtjmigclbilnajaaDoorDcW4
import Derived.Test.YtjmigclbilnajaaDoorDcW5
import Derived.Test.YtjmigclbilnajaaDoorDcW6
namespace Go.Dc
open Go Go.Proofs
set_option maxRecDepth 100000
set_option maxHeartbeats 4000000
set_option linter.unusedVariables false
theorem treecommute_Commute_ok {g : Gh} {fr : Hl} {w : World} {r : TreeChange × TreeChange × Bool × Fault} (a_ : TreeChange) (va_1 : Value) (ha_1 : RepSl g a_.Lines va_1) (va_2 : Value) (ha_2 : RepSl g a_.Patch.Hunks va_2) (b_ : TreeChange) (vb_1 : Value) (hb_1 : RepSl g b_.Lines vb_1) (vb_2 : Value) (hb_2 : RepSl g b_.Patch.Hunks vb_2) (S : St g [] fr w) (hm : treecommute_Commute a_ b_ = some r) :
  Calls Tryd.prog 12 [.agg #[.i6 a_.Kind, .string a_.Path, .string a_.To, va_1, va_2], .agg #[.i6 b_.Kind, .string b_.Path, .string b_.To, vb_1, vb_2]].toArray w (fun en w' => ∃ v, en = .returned v ∧ ∃ (g' : Gh) (v1 v2 v3 v4 : Value), Le g g' ∧ St g' [] fr w' ∧ RepSl g' r.1.Lines v1 ∧ RepSl g' r.1.Patch.Hunks v2 ∧ RepSl g' r.2.1.Lines v3 ∧ RepSl g' r.2.1.Patch.Hunks v4 ∧ .tuple #[.agg #[.i6 r.1.Kind, .string r.1.Path, .string r.1.To, v1, v2], .agg #[.i6 r.2.1.Kind, .string r.2.1.Path, .string r.2.1.To, v3, v4], .bool r.2.2.1, .agg #[.i6 r.2.2.2.Code, .i6 r.2.2.2.Index]] = v) := by
 unfold treecommute_Commute at hm
 refine calls_enter (fn := Tryd.f12) Tryd.func12 rfl Tryd.ntmps12 (lb rfl) ?_
 intro a F
 replace F : Fr 145 a [(0, .agg #[.i6 a_.Kind, .string a_.Path, .string a_.To, va_1, va_2]), (1, .agg #[.i6 b_.Kind, .string b_.Path, .string b_.To, vb_1, vb_2])] := F
 refine wp_seq ?_
 refine wp_region_lit ?_
 refine wl_boxC (wn rfl) rfl rfl rfl F S rfl rfl ?_; clear F a S; rintro b1 a w F S
 refine wl_boxC (wn rfl) rfl rfl rfl F S rfl rfl ?_; clear F a S; rintro b2 a w F S
 refine wl_alloc (wn rfl) rfl tz27 (cs := [.i6 0, .string ByteArray.empty, .string ByteArray.empty, nilS, nilS]) rfl F S rfl rfl ?_; clear F a S; rintro b3 a w F S
 refine wl_alloc (wn rfl) rfl tz27 (cs := [.i6 0, .string ByteArray.empty, .string ByteArray.empty, nilS, nilS]) rfl F S rfl rfl ?_; clear F a S; rintro b4 a w F S
 refine wE (ev_assign rfl) F S rfl fun a F=>?_
 refine wl_alloc (wn rfl) rfl tz29 (cs := [.i6 0, .i6 0]) rfl F S rfl rfl ?_; clear F a S; rintro b5 a w F S
 refine wpList_nil ?_
 refine then_n ?_
 refine wp_seq ?_
 refine wp_region_lit ?_
 refine wl_alloc (wn rfl) rfl tz27 (cs := [.i6 0, .string ByteArray.empty, .string ByteArray.empty, nilS, nilS]) rfl F S rfl rfl ?_; clear F a S; rintro b6 a w F S
 refine wpList_nil ?_
 refine then_n ?_
 refine wp_cut (fun a w => ∃ (g1 : Gh), Fr 145 a [(8, bp b6 0), (7, bp b5 0), (5, bp b4 0), (4, bp b3 0), (3, bp b2 0), (2, bp b1 0)] ∧ Le g g1 ∧ St g1 [[bx b6 #[.i6 0, .string ByteArray.empty, .string ByteArray.empty, nilS, nilS] 27], [bx b5 #[.i6 0, .i6 0] 29], [bx b4 #[.i6 0, .string ByteArray.empty, .string ByteArray.empty, nilS, nilS] 27], [bx b3 #[.i6 0, .string ByteArray.empty, .string ByteArray.empty, nilS, nilS] 27], [bx b2 #[.i6 b_.Kind, .string b_.Path, .string b_.To, vb_1, vb_2] 27], [bx b1 #[.i6 a_.Kind, .string a_.Path, .string a_.To, va_1, va_2] 27]] fr w ∧ treecommute_Commute.j1 a_ b_ = some r) ?_ ?_
 ·refine wp_seq ?_
  refine wp_region_lit ?_
  refine wE (ev_loadA tu27 rfl (cs := [.i6 a_.Kind, .string a_.Path, .string a_.To, va_1, va_2]) ts27 rfl (box_ptr (cells := [.i6 a_.Kind, .string a_.Path, .string a_.To, va_1, va_2]) 5 rfl 0 rfl (lb rfl))) F S rfl fun a F=>?_
  refine wE (ev_loadA tu27 rfl (cs := [.i6 b_.Kind, .string b_.Path, .string b_.To, vb_1, vb_2]) ts27 rfl (box_ptr (cells := [.i6 b_.Kind, .string b_.Path, .string b_.To, vb_1, vb_2]) 4 rfl 0 rfl (lb rfl))) F S rfl fun a F=>?_
  refine wl_lit (l := ([a_, b_] : List TreeChange)) (vs := [.agg #[.i6 a_.Kind, .string a_.Path, .string a_.To, va_1, va_2], .agg #[.i6 b_.Kind, .string b_.Path, .string b_.To, vb_1, vb_2]]) (parts := [(0, .tmp 18), (1, .tmp 19)]) (wn rfl) rfl rfl rfl tu39 te27 (sz_cons rfl (sz_cons rfl sz_nil)) rfl (Cat.cons (rep_TreeChange_mk (x := a_) ha_1 ha_2) (Cat.cons (rep_TreeChange_mk (x := b_) hb_1 hb_2) (Cat.nil _))) (coa_cons rfl (coa_cons rfl coa_nil)) rfl F S rfl rfl ?_; clear F a S
  rintro v15 c5 a w h19 F S
  refine wE (ev_lenOw h19 rfl tu39) F S rfl fun a F=>?_
  refine wE (ev_move rfl) F S rfl fun a F=>?_
  refine wpList_nil ?_
  refine then_n ?_
  refine wp_block ?_
  obtain ⟨r1, hr1, hm⟩ := bind_some hm
  have hmo1 := hm; clear hm
  refine wp_iter (σ := Int) (ρ := (TreeChange × TreeChange × Bool × Fault) ⊕ Unit) (m := fun s => treecommute_Commute.l1 a_ b_ s) (I := fun x7 a w => ∃ (g14 : Gh), Fr 145 a [(22, .i6 x7), (21, .i6 (([a_, b_] : List TreeChange).length : Int)), (20, v15), (8, bp b6 0), (7, bp b5 0), (5, bp b4 0), (4, bp b3 0), (3, bp b2 0), (2, bp b1 0)] ∧ Le g g14 ∧ St g14 [c5, [bx b6 #[.i6 0, .string ByteArray.empty, .string ByteArray.empty, nilS, nilS] 27], [bx b5 #[.i6 0, .i6 0] 29], [bx b4 #[.i6 0, .string ByteArray.empty, .string ByteArray.empty, nilS, nilS] 27], [bx b3 #[.i6 0, .string ByteArray.empty, .string ByteArray.empty, nilS, nilS] 27], [bx b2 #[.i6 b_.Kind, .string b_.Path, .string b_.To, vb_1, vb_2] 27], [bx b1 #[.i6 a_.Kind, .string a_.Path, .string a_.To, va_1, va_2] 27]] fr w) hr1 ?_ ?_
  ·exact ⟨g, F.sub ⟨rfl, rfl, rfl, rfl, rfl, rfl, rfl, rfl, rfl, trivial⟩, (Le.refl _), S⟩
  ·clear F S; rintro x7 a w x8 ⟨g14, F, l14, S⟩ hx7 hfin1
   have hm : treecommute_Commute.l1 a_ b_ x7 = some x8 := hx7; clear hx7
   unfold treecommute_Commute.l1 at hm
   refine wp_seq ?_
   refine wp_region_lit ?_
   refine wE (ev_int rfl rfl (bo_lss _ _ _ _)) F S rfl fun a F=>?_
   refine wpList_nil ?_
   refine then_n ?_
   refine wp_seq ?_
   obtain ⟨hc13, hm⟩ | ⟨hc13, hm⟩ := ite_or hm
   ·refine wp_condT F rfl hc13 ?_
    refine wp_skip ?_
    refine then_n ?_
    refine wp_seq ?_
    refine wp_block ?_
    refine wp_seq ?_
    refine wp_region_lit ?_
    refine wE (ev_move rfl) F S rfl fun a F=>?_
    obtain ⟨y9, hy9, hm⟩ := bind_some hm
    refine wE (ev_idxO (h19.mono l14) hy9 tu39 ts27 rfl rfl) F S rfl fun a F=>?_
    obtain ⟨cs1, hr2, hq1⟩ := elemO (h19.mono l14) hy9
    obtain ⟨v16, v17, rfl, h20, h21⟩ := rep_TreeChange hr2
    refine wE (ev_loadA tu27 rfl (cs := [.i6 y9.Kind, .string y9.Path, .string y9.To, v16, v17]) ts27 rfl (hq1 _ _ 0 rfl)) F S rfl fun a F=>?_
    refine wl_alloc (wn rfl) rfl tz27 (cs := [.i6 0, .string ByteArray.empty, .string ByteArray.empty, nilS, nilS]) rfl F S rfl rfl ?_; clear F a S; rintro b10 a w F S
    refine wE (ev_assign rfl) F S rfl fun a F=>?_
    refine wl_storeC (wn rfl) rfl F S rfl rfl (vs := [.i6 y9.Kind, .string y9.Path, .string y9.To, v16, v17]) rfl ts27 (one_cons rfl (one_cons rfl (one_cons rfl (one_cons h20.one (one_cons h21.one one_nil))))) (k := 0) rfl (lb rfl) (c' := #[.i6 y9.Kind, .string y9.Path, .string y9.To, v16, v17]) rfl rfl ?_; clear S; intro w S
    refine wpList_nil ?_
    refine then_n ?_
    refine wp_seq ?_
    refine wp_region_lit ?_
    refine wE (ev_loadA tu27 rfl (cs := [.i6 y9.Kind, .string y9.Path, .string y9.To, v16, v17]) ts27 rfl (box_ptr (cells := [.i6 y9.Kind, .string y9.Path, .string y9.To, v16, v17]) 0 rfl 0 rfl (lb rfl))) F S rfl fun a F=>?_
    refine wl_lit (l := ([y9] : List TreeChange)) (vs := [.agg #[.i6 y9.Kind, .string y9.Path, .string y9.To, v16, v17]]) (parts := [(0, .tmp 27)]) (wn rfl) rfl rfl rfl tu39 te27 (sz_cons rfl sz_nil) rfl (Cat.cons (rep_TreeChange_mk (x := y9) h20 h21) (Cat.nil _)) (coa_cons rfl coa_nil) rfl F S rfl rfl ?_; clear F a S
    rintro v18 c6 a w h22 F S
    refine wE (ev_build (parts := [(0, .tmp 28)]) (vs := [(0, v18)]) rfl (fun w => tb41_0 v18 (OwnS.isSl h22) w)) F S rfl fun a F=>?_
    refine wE (ev_move rfl) F S rfl fun a F=>?_
    obtain ⟨g15, l15, S, h23⟩ : ∃ gz, Le g14 gz ∧ St gz [[bx b10 #[.i6 y9.Kind, .string y9.Path, .string y9.To, v16, v17] 27], c5, [bx b6 #[.i6 0, .string ByteArray.empty, .string ByteArray.empty, nilS, nilS] 27], [bx b5 #[.i6 0, .i6 0] 29], [bx b4 #[.i6 0, .string ByteArray.empty, .string ByteArray.empty, nilS, nilS] 27], [bx b3 #[.i6 0, .string ByteArray.empty, .string ByteArray.empty, nilS, nilS] 27], [bx b2 #[.i6 b_.Kind, .string b_.Path, .string b_.To, vb_1, vb_2] 27], [bx b1 #[.i6 a_.Kind, .string a_.Path, .string a_.To, va_1, va_2] 27]] fr w ∧ RepSl gz ([y9] : List TreeChange) v18 := ⟨_, Le.add _ _, S.freeze 0 rfl, OwnS.freeze (S.front 0 rfl) h22⟩
    obtain ⟨y10, hy10, hm⟩ := bind_some hm
    refine wl_call0 (wn rfl) rfl F rfl (treepatch_SecondPatch_ok (fr := (fl [[bx b10 #[.i6 y9.Kind, .string y9.Path, .string y9.To, v16, v17] 27], c5, [bx b6 #[.i6 0, .string ByteArray.empty, .string ByteArray.empty, nilS, nilS] 27], [bx b5 #[.i6 0, .i6 0] 29], [bx b4 #[.i6 0, .string ByteArray.empty, .string ByteArray.empty, nilS, nilS] 27], [bx b3 #[.i6 0, .string ByteArray.empty, .string ByteArray.empty, nilS, nilS] 27], [bx b2 #[.i6 b_.Kind, .string b_.Path, .string b_.To, vb_1, vb_2] 27], [bx b1 #[.i6 a_.Kind, .string a_.Path, .string a_.To, va_1, va_2] 27]] fr)) ({ Changes := ([y9] : List TreeChange) } : TreePatch) v18 h23 x7 S hy10) rfl tc30 rfl rfl ?_; clear F a S
    rintro _ a w ⟨g16, l16, S, rfl⟩ F; replace S : St g16 [[bx b10 #[.i6 y9.Kind, .string y9.Path, .string y9.To, v16, v17] 27], c5, [bx b6 #[.i6 0, .string ByteArray.empty, .string ByteArray.empty, nilS, nilS] 27], [bx b5 #[.i6 0, .i6 0] 29], [bx b4 #[.i6 0, .string ByteArray.empty, .string ByteArray.empty, nilS, nilS] 27], [bx b3 #[.i6 0, .string ByteArray.empty, .string ByteArray.empty, nilS, nilS] 27], [bx b2 #[.i6 b_.Kind, .string b_.Path, .string b_.To, vb_1, vb_2] 27], [bx b1 #[.i6 a_.Kind, .string a_.Path, .string a_.To, va_1, va_2] 27]] fr w := S
    refine wl_alloc (wn rfl) rfl tz29 (cs := [.i6 0, .i6 0]) rfl F S rfl rfl ?_; clear F a S; rintro b11 a w F S
    refine wl_storeC (wn rfl) rfl F S rfl rfl (vs := [.i6 y10.Code, .i6 y10.Index]) rfl ts29 (one_cons rfl (one_cons rfl one_nil)) (k := 0) rfl (lb rfl) (c' := #[.i6 y10.Code, .i6 y10.Index]) rfl rfl ?_; clear S; intro w S
    refine wpList_nil ?_
    refine then_n ?_
    refine wp_seq ?_
    refine wp_region_lit ?_
    refine wE (ev_loadA tu29 rfl (cs := [.i6 y10.Code, .i6 y10.Index]) ts29 rfl (box_ptr (cells := [.i6 y10.Code, .i6 y10.Index]) 0 rfl 0 rfl (lb rfl))) F S rfl fun a F=>?_
    refine wE (ev_build (parts := []) (vs := []) rfl (fun w => tb29_  w)) F S rfl fun a F=>?_
    refine wE (ev_neS tu29 tqa29 tqb29 tqc29 (xs := [.i6 y10.Code, .i6 y10.Index]) (ys := [.i6 0, .i6 0]) rfl rfl ⟨_, _, rfl, by decide, ⟨_, _, rfl, rfl, leaf_int tu3⟩, ⟨_, _, rfl, by decide, ⟨_, _, rfl, rfl, leaf_int tu3⟩, rfl⟩⟩) F S rfl fun a F=>?_
    refine wpList_nil ?_
    refine then_n ?_
    obtain ⟨hc14, hm⟩ | ⟨hc14, hm⟩ := ite_or hm
    ·refine wp_condT F rfl hc14 ?_
     refine wp_seq ?_
     refine wp_dv [] mo S ?_; clear S; intro ok9 w S
     refine dv_ev ok9 0 rfl (ev_loadA tu27 rfl (cs := [.i6 0, .string ByteArray.empty, .string ByteArray.empty, nilS, nilS]) ts27 rfl (box_ptr (cells := [.i6 0, .string ByteArray.empty, .string ByteArray.empty, nilS, nilS]) 3 rfl 0 rfl (lb rfl))) F S rfl fun a F=>?_
     refine dv_ev ok9 1 rfl (ev_loadA tu27 rfl (cs := [.i6 0, .string ByteArray.empty, .string ByteArray.empty, nilS, nilS]) ts27 rfl (box_ptr (cells := [.i6 0, .string ByteArray.empty, .string ByteArray.empty, nilS, nilS]) 3 rfl 0 rfl (lb rfl))) F S rfl fun a F=>?_
     refine dv_ev ok9 2 rfl (ev_loadA tu29 rfl (cs := [.i6 y10.Code, .i6 y10.Index]) ts29 rfl (box_ptr (cells := [.i6 y10.Code, .i6 y10.Index]) 0 rfl 0 rfl (lb rfl))) F S rfl fun a F=>?_
     refine dv_op ok9 3 rfl [(2, .agg #[.i6 y10.Code, .i6 y10.Index]), (1, .agg #[.i6 0, .string ByteArray.empty, .string ByteArray.empty, nilS, nilS])] ?_
     refine wl_storeC (wn rfl) rfl F S rfl rfl (vs := [.i6 0, .string ByteArray.empty, .string ByteArray.empty, nilS, nilS]) rfl ts27 (one_cons rfl (one_cons rfl (one_cons rfl (one_cons rfl (one_cons rfl one_nil))))) (k := 6) rfl (lb rfl) (c' := #[.i6 0, .string ByteArray.empty, .string ByteArray.empty, nilS, nilS]) rfl rfl ?_; clear S; intro w S
     refine dv_nx ⟨yl_ev rfl rfl (ev_loadA tu29 rfl (cs := [.i6 y10.Code, .i6 y10.Index]) ts29 rfl (box_ptr (cells := [.i6 y10.Code, .i6 y10.Index]) 0 rfl 0 rfl (lb rfl))) F S, yl_ev rfl rfl (ev_loadA tu27 rfl (cs := [.i6 0, .string ByteArray.empty, .string ByteArray.empty, nilS, nilS]) ts27 rfl (box_ptr (cells := [.i6 0, .string ByteArray.empty, .string ByteArray.empty, nilS, nilS]) 3 rfl 0 rfl (lb rfl))) F S, trivial⟩ ?_
     refine dv_op ok9 4 rfl [(2, .agg #[.i6 y10.Code, .i6 y10.Index])] ?_
     refine wl_storeC (wn rfl) rfl F S rfl rfl (vs := [.i6 0, .string ByteArray.empty, .string ByteArray.empty, nilS, nilS]) rfl ts27 (one_cons rfl (one_cons rfl (one_cons rfl (one_cons rfl (one_cons rfl one_nil))))) (k := 5) rfl (lb rfl) (c' := #[.i6 0, .string ByteArray.empty, .string ByteArray.empty, nilS, nilS]) rfl rfl ?_; clear S; intro w S
     refine dv_nx ⟨yl_ev rfl rfl (ev_loadA tu29 rfl (cs := [.i6 y10.Code, .i6 y10.Index]) ts29 rfl (box_ptr (cells := [.i6 y10.Code, .i6 y10.Index]) 0 rfl 0 rfl (lb rfl))) F S, trivial⟩ ?_
     refine dv_et ok9 5 rfl (ev_assign rfl) F rfl fun a F=>?_
     refine dv_op ok9 6 rfl [] ?_
     refine wl_storeC (wn rfl) rfl F S rfl rfl (vs := [.i6 y10.Code, .i6 y10.Index]) rfl ts29 (one_cons rfl (one_cons rfl one_nil)) (k := 4) rfl (lb rfl) (c' := #[.i6 y10.Code, .i6 y10.Index]) rfl rfl ?_; clear S; intro w S
     refine dv_nx trivial ?_
     refine dv_fin ok9 ?_
     refine then_n ?_
     refine wp_ret ?_
     refine inb_r ?_
     refine then_r ?_
     refine then_r ?_
     refine inb_r ?_
     refine then_r ?_
     obtain rfl := sinj hm
     obtain rfl := hfin1 _ rfl
     clear hm
     have hm : (some (({ Kind := 0, Path := ByteArray.empty, To := ByteArray.empty, Lines := [], Patch := ({ Hunks := [] } : Patch) } : TreeChange), ({ Kind := 0, Path := ByteArray.empty, To := ByteArray.empty, Lines := [], Patch := ({ Hunks := [] } : Patch) } : TreeChange), false, y10) : Option (TreeChange × TreeChange × Bool × Fault)) = some _ := hmo1
     obtain rfl := sinj hm
     refine post_r _ F rfl (ar_cons (resA rfl tu27 rfl (box_ptr (cells := [.i6 0, .string ByteArray.empty, .string ByteArray.empty, nilS, nilS]) 6 rfl 0 rfl (lb rfl) w S) ts27) (ar_cons (resA rfl tu27 rfl (box_ptr (cells := [.i6 0, .string ByteArray.empty, .string ByteArray.empty, nilS, nilS]) 5 rfl 0 rfl (lb rfl) w S) ts27) (ar_cons (resT rfl) (ar_cons (resA rfl tu29 rfl (box_ptr (cells := [.i6 y10.Code, .i6 y10.Index]) 4 rfl 0 rfl (lb rfl) w S) ts29) ar_nil)))) ?_
     replace S : St g16 [] fr w := St.tail [] _ S
     exact ⟨_, rfl, g16, (nilS), (nilS), (nilS), (nilS), ((l14.trans l15).trans l16), S, (RepSl.nil _), (RepSl.nil _), (RepSl.nil _), (RepSl.nil _), rfl⟩
    ·refine wp_condF F rfl hc14 ?_
     refine wp_skip ?_
     refine inb_n ?_
     refine then_n ?_
     refine wp_region_lit ?_
     obtain ⟨z1, hz1, hm⟩ := bind_some hm
     refine wE (ev_int rfl rfl (bo_add hz1)) F S rfl fun a F=>?_
     refine wE (ev_move rfl) F S rfl fun a F=>?_
     refine wpList_nil ?_
     refine then_n ?_
     obtain rfl := sinj hm
     refine ⟨_, rfl, ?_⟩
     replace S : St g16 [c5, [bx b6 #[.i6 0, .string ByteArray.empty, .string ByteArray.empty, nilS, nilS] 27], [bx b5 #[.i6 0, .i6 0] 29], [bx b4 #[.i6 0, .string ByteArray.empty, .string ByteArray.empty, nilS, nilS] 27], [bx b3 #[.i6 0, .string ByteArray.empty, .string ByteArray.empty, nilS, nilS] 27], [bx b2 #[.i6 b_.Kind, .string b_.Path, .string b_.To, vb_1, vb_2] 27], [bx b1 #[.i6 a_.Kind, .string a_.Path, .string a_.To, va_1, va_2] 27]] fr w := St.tail [c5, [bx b6 #[.i6 0, .string ByteArray.empty, .string ByteArray.empty, nilS, nilS] 27], [bx b5 #[.i6 0, .i6 0] 29], [bx b4 #[.i6 0, .string ByteArray.empty, .string ByteArray.empty, nilS, nilS] 27], [bx b3 #[.i6 0, .string ByteArray.empty, .string ByteArray.empty, nilS, nilS] 27], [bx b2 #[.i6 b_.Kind, .string b_.Path, .string b_.To, vb_1, vb_2] 27], [bx b1 #[.i6 a_.Kind, .string a_.Path, .string a_.To, va_1, va_2] 27]] _ (((((((S.frontC 8 rfl).frontC 8 rfl).frontC 8 rfl).frontC 8 rfl).frontC 8 rfl).frontC 8 rfl).frontC 8 rfl)
     exact ⟨g16, F.sub ⟨rfl, rfl, rfl, rfl, rfl, rfl, rfl, rfl, rfl, trivial⟩, ((l14.trans l15).trans l16), S⟩
   ·refine wp_condF F rfl hc13 ?_
    refine wp_exit ?_
    refine then_e ?_
    refine then_e ?_
    refine inb_x ?_
    refine then_n ?_
    obtain rfl := sinj hm
    obtain rfl := hfin1 _ rfl
    clear hm
    have hm : (treecommute_Commute.j1 a_ b_ : Option (TreeChange × TreeChange × Bool × Fault)) = some _ := hmo1
    replace S : St g14 [[bx b6 #[.i6 0, .string ByteArray.empty, .string ByteArray.empty, nilS, nilS] 27], [bx b5 #[.i6 0, .i6 0] 29], [bx b4 #[.i6 0, .string ByteArray.empty, .string ByteArray.empty, nilS, nilS] 27], [bx b3 #[.i6 0, .string ByteArray.empty, .string ByteArray.empty, nilS, nilS] 27], [bx b2 #[.i6 b_.Kind, .string b_.Path, .string b_.To, vb_1, vb_2] 27], [bx b1 #[.i6 a_.Kind, .string a_.Path, .string a_.To, va_1, va_2] 27]] fr w := St.tail [[bx b6 #[.i6 0, .string ByteArray.empty, .string ByteArray.empty, nilS, nilS] 27], [bx b5 #[.i6 0, .i6 0] 29], [bx b4 #[.i6 0, .string ByteArray.empty, .string ByteArray.empty, nilS, nilS] 27], [bx b3 #[.i6 0, .string ByteArray.empty, .string ByteArray.empty, nilS, nilS] 27], [bx b2 #[.i6 b_.Kind, .string b_.Path, .string b_.To, vb_1, vb_2] 27], [bx b1 #[.i6 a_.Kind, .string a_.Path, .string a_.To, va_1, va_2] 27]] _ ((((((S.frontC 6 rfl).frontC 6 rfl).frontC 6 rfl).frontC 6 rfl).frontC 6 rfl).frontC 6 rfl)
    exact ⟨g14, F.sub ⟨rfl, rfl, rfl, rfl, rfl, rfl, trivial⟩, l14, S, hm⟩
 ·clear F S hm; rintro a w ⟨g1, F, l1, S, hm⟩
  refine wp_seq ?_
  refine wp_dv [] mo S ?_; clear S; intro ok1 w S
  refine dv_ev ok1 0 rfl (ev_loadA tu27 rfl (cs := [.i6 a_.Kind, .string a_.Path, .string a_.To, va_1, va_2]) ts27 rfl (box_ptr (cells := [.i6 a_.Kind, .string a_.Path, .string a_.To, va_1, va_2]) 5 rfl 0 rfl (lb rfl))) F S rfl fun a F=>?_
  refine dv_ev ok1 2 rfl (ev_loadA tu27 rfl (cs := [.i6 b_.Kind, .string b_.Path, .string b_.To, vb_1, vb_2]) ts27 rfl (box_ptr (cells := [.i6 b_.Kind, .string b_.Path, .string b_.To, vb_1, vb_2]) 4 rfl 0 rfl (lb rfl))) F S rfl fun a F=>?_
  refine dv_op ok1 1 rfl [(2, .agg #[.i6 b_.Kind, .string b_.Path, .string b_.To, vb_1, vb_2])] ?_
  obtain ⟨y1, hy1, hm⟩ := bind_some hm
  refine wl_call0 (wn rfl) rfl F rfl (treepatch_CopyChange_ok (fr := (fl [[bx b6 #[.i6 0, .string ByteArray.empty, .string ByteArray.empty, nilS, nilS] 27], [bx b5 #[.i6 0, .i6 0] 29], [bx b4 #[.i6 0, .string ByteArray.empty, .string ByteArray.empty, nilS, nilS] 27], [bx b3 #[.i6 0, .string ByteArray.empty, .string ByteArray.empty, nilS, nilS] 27], [bx b2 #[.i6 b_.Kind, .string b_.Path, .string b_.To, vb_1, vb_2] 27], [bx b1 #[.i6 a_.Kind, .string a_.Path, .string a_.To, va_1, va_2] 27]] fr)) a_ va_1 (ha_1.mono l1) va_2 (ha_2.mono l1) S hy1) rfl tc31 rfl rfl ?_; clear F a S
  rintro _ a w ⟨g2, v1, v2, c1, c2, l2, S, h1, h2, rfl⟩ F; replace S : St g2 [c1, c2, [bx b6 #[.i6 0, .string ByteArray.empty, .string ByteArray.empty, nilS, nilS] 27], [bx b5 #[.i6 0, .i6 0] 29], [bx b4 #[.i6 0, .string ByteArray.empty, .string ByteArray.empty, nilS, nilS] 27], [bx b3 #[.i6 0, .string ByteArray.empty, .string ByteArray.empty, nilS, nilS] 27], [bx b2 #[.i6 b_.Kind, .string b_.Path, .string b_.To, vb_1, vb_2] 27], [bx b1 #[.i6 a_.Kind, .string a_.Path, .string a_.To, va_1, va_2] 27]] fr w := S
  refine dv_nx ⟨yl_ev rfl rfl (ev_loadA tu27 rfl (cs := [.i6 b_.Kind, .string b_.Path, .string b_.To, vb_1, vb_2]) ts27 rfl (box_ptr (cells := [.i6 b_.Kind, .string b_.Path, .string b_.To, vb_1, vb_2]) 6 rfl 0 rfl (lb rfl))) F S, trivial⟩ ?_
  refine dv_op ok1 3 rfl [] ?_
  obtain ⟨y2, hy2, hm⟩ := bind_some hm
  refine wl_call0 (wn rfl) rfl F rfl (treepatch_CopyChange_ok (fr := (fl [c1, c2, [bx b6 #[.i6 0, .string ByteArray.empty, .string ByteArray.empty, nilS, nilS] 27], [bx b5 #[.i6 0, .i6 0] 29], [bx b4 #[.i6 0, .string ByteArray.empty, .string ByteArray.empty, nilS, nilS] 27], [bx b3 #[.i6 0, .string ByteArray.empty, .string ByteArray.empty, nilS, nilS] 27], [bx b2 #[.i6 b_.Kind, .string b_.Path, .string b_.To, vb_1, vb_2] 27], [bx b1 #[.i6 a_.Kind, .string a_.Path, .string a_.To, va_1, va_2] 27]] fr)) b_ vb_1 (hb_1.mono (l1.trans l2)) vb_2 (hb_2.mono (l1.trans l2)) S hy2) rfl tc31 rfl rfl ?_; clear F a S
  rintro _ a w ⟨g3, v3, v4, c3, c4, l3, S, h3, h4, rfl⟩ F; replace S : St g3 [c3, c4, c1, c2, [bx b6 #[.i6 0, .string ByteArray.empty, .string ByteArray.empty, nilS, nilS] 27], [bx b5 #[.i6 0, .i6 0] 29], [bx b4 #[.i6 0, .string ByteArray.empty, .string ByteArray.empty, nilS, nilS] 27], [bx b3 #[.i6 0, .string ByteArray.empty, .string ByteArray.empty, nilS, nilS] 27], [bx b2 #[.i6 b_.Kind, .string b_.Path, .string b_.To, vb_1, vb_2] 27], [bx b1 #[.i6 a_.Kind, .string a_.Path, .string a_.To, va_1, va_2] 27]] fr w := S
  refine dv_nx trivial ?_
  refine dv_op ok1 4 rfl [] ?_
  refine wl_storeC (wn rfl) rfl F S rfl rfl (vs := [.i6 y1.Kind, .string y1.Path, .string y1.To, v1, v2]) rfl ts27 (one_cons rfl (one_cons rfl (one_cons rfl (one_cons (OwnS.one h1) (one_cons (OwnS.one h2) one_nil))))) (k := 9) rfl (lb rfl) (c' := #[.i6 y1.Kind, .string y1.Path, .string y1.To, v1, v2]) rfl rfl ?_; clear S; intro w S
  refine dv_nx trivial ?_
  refine dv_op ok1 5 rfl [] ?_
  refine wl_storeC (wn rfl) rfl F S rfl rfl (vs := [.i6 y2.Kind, .string y2.Path, .string y2.To, v3, v4]) rfl ts27 (one_cons rfl (one_cons rfl (one_cons rfl (one_cons (OwnS.one h3) (one_cons (OwnS.one h4) one_nil))))) (k := 8) rfl (lb rfl) (c' := #[.i6 y2.Kind, .string y2.Path, .string y2.To, v3, v4]) rfl rfl ?_; clear S; intro w S
  refine dv_nx trivial ?_
  refine dv_fin ok1 ?_
  refine then_n ?_
  refine wp_seq ?_
  refine wp_quiet mo (by kernel_rfl) S ?_
  refine wq_ev (wn rfl) (ev_fieldAddr' tu27 tf27_0 (z := 0) ts3 rfl ⟨_, rfl⟩ rfl) F rfl rfl ?_; clear F a; intro a F
  refine wq_ev (wn rfl) (ev_load1 tu3 rfl rfl (box_ptr (cells := [.i6 y1.Kind]) 9 rfl 0 rfl (lb rfl))) F rfl rfl ?_; clear F a; intro a F
  refine wq_ev (wn rfl) (ev_int rfl rfl (bo_eql _ _ _ _)) F rfl rfl ?_; clear F a; intro a F
  refine wq_ev (wn rfl) (ev_fieldAddr' tu27 tf27_0 (z := 0) ts3 rfl ⟨_, rfl⟩ rfl) F rfl rfl ?_; clear F a; intro a F
  refine wq_ev (wn rfl) (ev_load1 tu3 rfl rfl (box_ptr (cells := [.i6 y2.Kind]) 8 rfl 0 rfl (lb rfl))) F rfl rfl ?_; clear F a; intro a F
  refine wq_ev (wn rfl) (ev_int rfl rfl (bo_eql _ _ _ _)) F rfl rfl ?_; clear F a; intro a F
  refine wq_ev (wn rfl) (ev_assign rfl) F rfl rfl ?_; clear F a; intro a F
  refine wq_ev (wn rfl) (ev_assign rfl) F rfl rfl ?_; clear F a; intro a F
  refine wq_nil ?_; clear S; intro w S
  refine then_n ?_
  refine wp_seq ?_
  refine wp_block ?_
  refine wp_seq ?_
  refine wp_region_lit ?_
  refine wE (ev_loadA tu27 rfl (cs := [.i6 y1.Kind, .string y1.Path, .string y1.To, v1, v2]) ts27 rfl (box_ptr (cells := [.i6 y1.Kind, .string y1.Path, .string y1.To, v1, v2]) 9 rfl 0 rfl (lb rfl))) F S rfl fun a F=>?_
  refine wE (ev_loadA tu27 rfl (cs := [.i6 y2.Kind, .string y2.Path, .string y2.To, v3, v4]) ts27 rfl (box_ptr (cells := [.i6 y2.Kind, .string y2.Path, .string y2.To, v3, v4]) 8 rfl 0 rfl (lb rfl))) F S rfl fun a F=>?_
  obtain ⟨g4, l4, S, h5⟩ : ∃ gz, Le g3 gz ∧ St gz [c3, c4, c2, [bx b6 #[.i6 0, .string ByteArray.empty, .string ByteArray.empty, nilS, nilS] 27], [bx b5 #[.i6 0, .i6 0] 29], [bx b4 #[.i6 0, .string ByteArray.empty, .string ByteArray.empty, nilS, nilS] 27], [bx b3 #[.i6 0, .string ByteArray.empty, .string ByteArray.empty, nilS, nilS] 27], [bx b2 #[.i6 y2.Kind, .string y2.Path, .string y2.To, v3, v4] 27], [bx b1 #[.i6 y1.Kind, .string y1.Path, .string y1.To, v1, v2] 27]] fr w ∧ RepSl gz y1.Lines v1 := ⟨_, Le.add _ _, S.freeze 2 rfl, OwnS.freeze (S.front 2 rfl) (h1.mono l3)⟩
  obtain ⟨g5, l5, S, h6⟩ : ∃ gz, Le g4 gz ∧ St gz [c3, c4, [bx b6 #[.i6 0, .string ByteArray.empty, .string ByteArray.empty, nilS, nilS] 27], [bx b5 #[.i6 0, .i6 0] 29], [bx b4 #[.i6 0, .string ByteArray.empty, .string ByteArray.empty, nilS, nilS] 27], [bx b3 #[.i6 0, .string ByteArray.empty, .string ByteArray.empty, nilS, nilS] 27], [bx b2 #[.i6 y2.Kind, .string y2.Path, .string y2.To, v3, v4] 27], [bx b1 #[.i6 y1.Kind, .string y1.Path, .string y1.To, v1, v2] 27]] fr w ∧ RepSl gz y1.Patch.Hunks v2 := ⟨_, Le.add _ _, S.freeze 2 rfl, OwnS.freeze (S.front 2 rfl) (h2.mono (l3.trans l4))⟩
  obtain ⟨g6, l6, S, h7⟩ : ∃ gz, Le g5 gz ∧ St gz [c4, [bx b6 #[.i6 0, .string ByteArray.empty, .string ByteArray.empty, nilS, nilS] 27], [bx b5 #[.i6 0, .i6 0] 29], [bx b4 #[.i6 0, .string ByteArray.empty, .string ByteArray.empty, nilS, nilS] 27], [bx b3 #[.i6 0, .string ByteArray.empty, .string ByteArray.empty, nilS, nilS] 27], [bx b2 #[.i6 y2.Kind, .string y2.Path, .string y2.To, v3, v4] 27], [bx b1 #[.i6 y1.Kind, .string y1.Path, .string y1.To, v1, v2] 27]] fr w ∧ RepSl gz y2.Lines v3 := ⟨_, Le.add _ _, S.freeze 0 rfl, OwnS.freeze (S.front 0 rfl) (h3.mono (l4.trans l5))⟩
  obtain ⟨g7, l7, S, h8⟩ : ∃ gz, Le g6 gz ∧ St gz [[bx b6 #[.i6 0, .string ByteArray.empty, .string ByteArray.empty, nilS, nilS] 27], [bx b5 #[.i6 0, .i6 0] 29], [bx b4 #[.i6 0, .string ByteArray.empty, .string ByteArray.empty, nilS, nilS] 27], [bx b3 #[.i6 0, .string ByteArray.empty, .string ByteArray.empty, nilS, nilS] 27], [bx b2 #[.i6 y2.Kind, .string y2.Path, .string y2.To, v3, v4] 27], [bx b1 #[.i6 y1.Kind, .string y1.Path, .string y1.To, v1, v2] 27]] fr w ∧ RepSl gz y2.Patch.Hunks v4 := ⟨_, Le.add _ _, S.freeze 0 rfl, OwnS.freeze (S.front 0 rfl) (h4.mono ((l4.trans l5).trans l6))⟩
  obtain ⟨y3, hy3, hm⟩ := bind_some hm
  refine wl_call0 (wn rfl) rfl F rfl (treecommute_independent_ok (fr := (fl [[bx b6 #[.i6 0, .string ByteArray.empty, .string ByteArray.empty, nilS, nilS] 27], [bx b5 #[.i6 0, .i6 0] 29], [bx b4 #[.i6 0, .string ByteArray.empty, .string ByteArray.empty, nilS, nilS] 27], [bx b3 #[.i6 0, .string ByteArray.empty, .string ByteArray.empty, nilS, nilS] 27], [bx b2 #[.i6 y2.Kind, .string y2.Path, .string y2.To, v3, v4] 27], [bx b1 #[.i6 y1.Kind, .string y1.Path, .string y1.To, v1, v2] 27]] fr)) y1 v1 (h5.mono ((l5.trans l6).trans l7)) v2 (h6.mono (l6.trans l7)) y2 v3 (h7.mono l7) v4 h8 S hy3) rfl tc32 rfl rfl ?_; clear F a S
  rintro _ a w ⟨g8, l8, S, rfl⟩ F; replace S : St g8 [[bx b6 #[.i6 0, .string ByteArray.empty, .string ByteArray.empty, nilS, nilS] 27], [bx b5 #[.i6 0, .i6 0] 29], [bx b4 #[.i6 0, .string ByteArray.empty, .string ByteArray.empty, nilS, nilS] 27], [bx b3 #[.i6 0, .string ByteArray.empty, .string ByteArray.empty, nilS, nilS] 27], [bx b2 #[.i6 y2.Kind, .string y2.Path, .string y2.To, v3, v4] 27], [bx b1 #[.i6 y1.Kind, .string y1.Path, .string y1.To, v1, v2] 27]] fr w := S
  refine wE (ev_assign rfl) F S rfl fun a F=>?_
  refine wpList_nil ?_
  refine then_n ?_
  obtain ⟨hc1, hm⟩ | ⟨hc1, hm⟩ := ite_or hm
  ·refine wp_condT F rfl hc1 ?_
   refine wp_seq ?_
   refine wp_dv [] mo S ?_; clear S; intro ok2 w S
   refine dv_ev ok2 0 rfl (ev_loadA tu27 rfl (cs := [.i6 y2.Kind, .string y2.Path, .string y2.To, v3, v4]) ts27 rfl (box_ptr (cells := [.i6 y2.Kind, .string y2.Path, .string y2.To, v3, v4]) 4 rfl 0 rfl (lb rfl))) F S rfl fun a F=>?_
   refine dv_ev ok2 1 rfl (ev_loadA tu27 rfl (cs := [.i6 y1.Kind, .string y1.Path, .string y1.To, v1, v2]) ts27 rfl (box_ptr (cells := [.i6 y1.Kind, .string y1.Path, .string y1.To, v1, v2]) 5 rfl 0 rfl (lb rfl))) F S rfl fun a F=>?_
   refine dv_et ok2 2 rfl (ev_build (parts := []) (vs := []) rfl (fun w => tb29_  w)) F rfl fun a F=>?_
   refine dv_op ok2 3 rfl [(1, .agg #[.i6 y1.Kind, .string y1.Path, .string y1.To, v1, v2])] ?_
   refine wl_storeC (wn rfl) rfl F S rfl rfl (vs := [.i6 y2.Kind, .string y2.Path, .string y2.To, v3, v4]) rfl ts27 (one_cons rfl (one_cons rfl (one_cons rfl (one_cons h7.one (one_cons h8.one one_nil))))) (k := 3) rfl (lb rfl) (c' := #[.i6 y2.Kind, .string y2.Path, .string y2.To, v3, v4]) rfl rfl ?_; clear S; intro w S
   refine dv_nx ⟨yl_ev rfl rfl (ev_loadA tu27 rfl (cs := [.i6 y1.Kind, .string y1.Path, .string y1.To, v1, v2]) ts27 rfl (box_ptr (cells := [.i6 y1.Kind, .string y1.Path, .string y1.To, v1, v2]) 5 rfl 0 rfl (lb rfl))) F S, trivial⟩ ?_
   refine dv_op ok2 4 rfl [] ?_
   refine wl_storeC (wn rfl) rfl F S rfl rfl (vs := [.i6 y1.Kind, .string y1.Path, .string y1.To, v1, v2]) rfl ts27 (one_cons rfl (one_cons rfl (one_cons rfl (one_cons h5.one (one_cons h6.one one_nil))))) (k := 2) rfl (lb rfl) (c' := #[.i6 y1.Kind, .string y1.Path, .string y1.To, v1, v2]) rfl rfl ?_; clear S; intro w S
   refine dv_nx trivial ?_
   refine dv_et ok2 5 rfl (ev_assign rfl) F rfl fun a F=>?_
   refine dv_op ok2 6 rfl [] ?_
   refine wl_storeC (wn rfl) rfl F S rfl rfl (vs := [.i6 0, .i6 0]) rfl ts29 (one_cons rfl (one_cons rfl one_nil)) (k := 1) rfl (lb rfl) (c' := #[.i6 0, .i6 0]) rfl rfl ?_; clear S; intro w S
   refine dv_nx trivial ?_
   refine dv_fin ok2 ?_
   refine then_n ?_
   refine wp_ret ?_
   refine inb_r ?_
   refine then_r ?_
   obtain rfl := sinj hm
   refine post_r _ F rfl (ar_cons (resA rfl tu27 rfl (box_ptr (cells := [.i6 y2.Kind, .string y2.Path, .string y2.To, v3, v4]) 3 rfl 0 rfl (lb rfl) w S) ts27) (ar_cons (resA rfl tu27 rfl (box_ptr (cells := [.i6 y1.Kind, .string y1.Path, .string y1.To, v1, v2]) 2 rfl 0 rfl (lb rfl) w S) ts27) (ar_cons (resT rfl) (ar_cons (resA rfl tu29 rfl (box_ptr (cells := [.i6 0, .i6 0]) 1 rfl 0 rfl (lb rfl) w S) ts29) ar_nil)))) ?_
   replace S : St g8 [] fr w := St.tail [] _ S
   exact ⟨_, rfl, g8, v3, v4, v1, v2, (((((((l1.trans l2).trans l3).trans l4).trans l5).trans l6).trans l7).trans l8), S, (h7.mono (l7.trans l8)), (h8.mono l8), (h5.mono (((l5.trans l6).trans l7).trans l8)), (h6.mono ((l6.trans l7).trans l8)), rfl⟩
  ·refine wp_condF F rfl hc1 ?_
   refine wp_seq ?_
   refine wp_region_lit ?_
   refine wE (ev_move rfl) F S rfl fun a F=>?_
   refine wE (ev_move rfl) F S rfl fun a F=>?_
   obtain ⟨x1, hx1, hm⟩ := bind_some hm
   refine wl_cut 2 (fun a w' => w = w' ∧ Fr 145 a [(60, .bool x1), (13, .bool (decide (y2.Kind = 4))), (12, .bool (decide (y1.Kind = 4))), (8, bp b6 0), (7, bp b5 0), (5, bp b4 0), (4, bp b3 0), (3, bp b2 0), (2, bp b1 0)]) ?_ ?_
   ·clear hm; obtain ⟨hc2, hm⟩ | ⟨hc2, hm⟩ := ite_or hx1
    ·refine wl_ev (wg F rfl rfl rfl rfl hc2) (ev_move rfl) F S rfl rfl ?_; clear F a; intro a F
     refine wE (ev_pickT rfl hc2 rfl) F S rfl fun a F=>?_
     obtain rfl := sinj hm
     refine wpList_nil (then_n ?_); exact ⟨rfl, F.sub ⟨rfl, rfl, rfl, rfl, rfl, rfl, rfl, rfl, rfl, trivial⟩⟩
    ·refine wl_skip rfl rfl rfl rfl (ne_tf hc2) F rfl rfl ?_; clear F a; intro a F
     refine wE (ev_pickF rfl hc2 rfl) F S rfl fun a F=>?_
     obtain rfl := sinj hm
     refine wpList_nil (then_n ?_); exact ⟨rfl, F.sub ⟨rfl, rfl, rfl, rfl, rfl, rfl, rfl, rfl, rfl, trivial⟩⟩
   clear F; rintro a w' ⟨rfl, F⟩
   refine wE (ev_move rfl) F S rfl fun a F=>?_
   obtain ⟨x2, hx2, hm⟩ := bind_some hm
   refine wl_cut 6 (fun a w' => w = w' ∧ Fr 145 a [(67, .bool x2), (13, .bool (decide (y2.Kind = 4))), (12, .bool (decide (y1.Kind = 4))), (8, bp b6 0), (7, bp b5 0), (5, bp b4 0), (4, bp b3 0), (3, bp b2 0), (2, bp b1 0)]) ?_ ?_
   ·clear hm; obtain ⟨hc3, hm⟩ | ⟨hc3, hm⟩ := ite_or hx2
    ·refine wl_ev (wg F rfl rfl rfl rfl hc3) (ev_fieldAddr' tu27 tf27_1 (z := 0) ts9 rfl ⟨_, rfl⟩ rfl) F S rfl rfl ?_; clear F a; intro a F
     refine wl_ev (wg F rfl rfl rfl rfl hc3) (ev_load1 tu9 rfl rfl (box_ptr (cells := [.string y1.Path]) 5 rfl 1 rfl (lb rfl))) F S rfl rfl ?_; clear F a; intro a F
     refine wl_ev (wg F rfl rfl rfl rfl hc3) (ev_fieldAddr' tu27 tf27_1 (z := 0) ts9 rfl ⟨_, rfl⟩ rfl) F S rfl rfl ?_; clear F a; intro a F
     refine wl_ev (wg F rfl rfl rfl rfl hc3) (ev_load1 tu9 rfl rfl (box_ptr (cells := [.string y2.Path]) 4 rfl 1 rfl (lb rfl))) F S rfl rfl ?_; clear F a; intro a F
     refine wl_ev (wg F rfl rfl rfl rfl hc3) (ev_str rfl rfl (bs_eql _ _ _)) F S rfl rfl ?_; clear F a; intro a F
     refine wE (ev_pickT rfl hc3 rfl) F S rfl fun a F=>?_
     obtain rfl := sinj hm
     refine wpList_nil (then_n ?_); exact ⟨rfl, F.sub ⟨rfl, rfl, rfl, rfl, rfl, rfl, rfl, rfl, rfl, trivial⟩⟩
    ·refine wl_skip rfl rfl rfl rfl (ne_tf hc3) F rfl rfl ?_; clear F a; intro a F
     refine wl_skip rfl rfl rfl rfl (ne_tf hc3) F rfl rfl ?_; clear F a; intro a F
     refine wl_skip rfl rfl rfl rfl (ne_tf hc3) F rfl rfl ?_; clear F a; intro a F
     refine wl_skip rfl rfl rfl rfl (ne_tf hc3) F rfl rfl ?_; clear F a; intro a F
     refine wl_skip rfl rfl rfl rfl (ne_tf hc3) F rfl rfl ?_; clear F a; intro a F
     refine wE (ev_pickF rfl hc3 rfl) F S rfl fun a F=>?_
     obtain rfl := sinj hm
     refine wpList_nil (then_n ?_); exact ⟨rfl, F.sub ⟨rfl, rfl, rfl, rfl, rfl, rfl, rfl, rfl, rfl, trivial⟩⟩
   clear F; rintro a w' ⟨rfl, F⟩
   refine wE (ev_assign rfl) F S rfl fun a F=>?_
   refine wpList_nil ?_
   refine then_n ?_
   obtain ⟨hc4, hm⟩ | ⟨hc4, hm⟩ := ite_or hm
   ·refine wp_condT F rfl hc4 ?_
    refine wp_seq ?_
    refine wp_region_lit ?_
    refine wE (ev_fieldAddr' tu27 tf27_4 (z := 0) ts25 rfl ⟨_, rfl⟩ rfl) F S rfl fun a F=>?_
    refine wE (ev_loadA tu25 rfl (cs := [v2]) ts25 rfl (box_ptr (cells := [v2]) 5 rfl 4 rfl (lb rfl))) F S rfl fun a F=>?_
    refine wE (ev_fieldAddr' tu27 tf27_4 (z := 0) ts25 rfl ⟨_, rfl⟩ rfl) F S rfl fun a F=>?_
    refine wE (ev_loadA tu25 rfl (cs := [v4]) ts25 rfl (box_ptr (cells := [v4]) 4 rfl 4 rfl (lb rfl))) F S rfl fun a F=>?_
    obtain ⟨y4, hy4, hm⟩ := bind_some hm
    refine wl_call0 (wn rfl) rfl F rfl (commute_Commute_ok (fr := (fl [[bx b6 #[.i6 0, .string ByteArray.empty, .string ByteArray.empty, nilS, nilS] 27], [bx b5 #[.i6 0, .i6 0] 29], [bx b4 #[.i6 0, .string ByteArray.empty, .string ByteArray.empty, nilS, nilS] 27], [bx b3 #[.i6 0, .string ByteArray.empty, .string ByteArray.empty, nilS, nilS] 27], [bx b2 #[.i6 y2.Kind, .string y2.Path, .string y2.To, v3, v4] 27], [bx b1 #[.i6 y1.Kind, .string y1.Path, .string y1.To, v1, v2] 27]] fr)) y1.Patch v2 (h6.mono ((l6.trans l7).trans l8)) y2.Patch v4 (h8.mono l8) S hy4) rfl tc33 rfl rfl ?_; clear F a S
    rintro _ a w ⟨g9, v5, v6, l9, S, h9, h10, rfl⟩ F; replace S : St g9 [[bx b6 #[.i6 0, .string ByteArray.empty, .string ByteArray.empty, nilS, nilS] 27], [bx b5 #[.i6 0, .i6 0] 29], [bx b4 #[.i6 0, .string ByteArray.empty, .string ByteArray.empty, nilS, nilS] 27], [bx b3 #[.i6 0, .string ByteArray.empty, .string ByteArray.empty, nilS, nilS] 27], [bx b2 #[.i6 y2.Kind, .string y2.Path, .string y2.To, v3, v4] 27], [bx b1 #[.i6 y1.Kind, .string y1.Path, .string y1.To, v1, v2] 27]] fr w := S
    refine wE (ev_move rfl) F S rfl fun a F=>?_
    refine wE (ev_extract rfl rfl) F S rfl fun a F=>?_
    refine wE (ev_extract rfl rfl) F S rfl fun a F=>?_
    refine wE (ev_extract rfl rfl) F S rfl fun a F=>?_
    refine wE (ev_extract rfl rfl) F S rfl fun a F=>?_
    refine wl_alloc (wn rfl) rfl tz25 (cs := [nilS]) rfl F S rfl rfl ?_; clear F a S; rintro b7 a w F S
    refine wl_alloc (wn rfl) rfl tz25 (cs := [nilS]) rfl F S rfl rfl ?_; clear F a S; rintro b8 a w F S
    refine wl_alloc (wn rfl) rfl tz29 (cs := [.i6 0, .i6 0]) rfl F S rfl rfl ?_; clear F a S; rintro b9 a w F S
    refine wl_storeC (wn rfl) rfl F S rfl rfl (vs := [v5]) rfl ts25 (one_cons h9.one one_nil) (k := 2) rfl (lb rfl) (c' := #[v5]) rfl rfl ?_; clear S; intro w S
    refine wl_storeC (wn rfl) rfl F S rfl rfl (vs := [v6]) rfl ts25 (one_cons h10.one one_nil) (k := 1) rfl (lb rfl) (c' := #[v6]) rfl rfl ?_; clear S; intro w S
    refine wE (ev_assign rfl) F S rfl fun a F=>?_
    refine wl_storeC (wn rfl) rfl F S rfl rfl (vs := [.i6 y4.2.2.2.Code, .i6 y4.2.2.2.Index]) rfl ts29 (one_cons rfl (one_cons rfl one_nil)) (k := 0) rfl (lb rfl) (c' := #[.i6 y4.2.2.2.Code, .i6 y4.2.2.2.Index]) rfl rfl ?_; clear S; intro w S
    refine wpList_nil ?_
    refine then_n ?_
    refine wp_seq ?_
    refine wp_seq ?_
    refine wp_region_lit ?_
    refine wE (ev_loadA tu29 rfl (cs := [.i6 y4.2.2.2.Code, .i6 y4.2.2.2.Index]) ts29 rfl (box_ptr (cells := [.i6 y4.2.2.2.Code, .i6 y4.2.2.2.Index]) 0 rfl 0 rfl (lb rfl))) F S rfl fun a F=>?_
    refine wE (ev_build (parts := []) (vs := []) rfl (fun w => tb29_  w)) F S rfl fun a F=>?_
    refine wE (ev_neS tu29 tqa29 tqb29 tqc29 (xs := [.i6 y4.2.2.2.Code, .i6 y4.2.2.2.Index]) (ys := [.i6 0, .i6 0]) rfl rfl ⟨_, _, rfl, by decide, ⟨_, _, rfl, rfl, leaf_int tu3⟩, ⟨_, _, rfl, by decide, ⟨_, _, rfl, rfl, leaf_int tu3⟩, rfl⟩⟩) F S rfl fun a F=>?_
    refine wpList_nil ?_
    refine then_n ?_
    obtain ⟨hc5, hm⟩ | ⟨hc5, hm⟩ := ite_or hm
    ·refine wp_condT F rfl hc5 ?_
     refine wp_seq ?_
     refine wp_dv [] mo S ?_; clear S; intro ok3 w S
     refine dv_ev ok3 0 rfl (ev_loadA tu27 rfl (cs := [.i6 0, .string ByteArray.empty, .string ByteArray.empty, nilS, nilS]) ts27 rfl (box_ptr (cells := [.i6 0, .string ByteArray.empty, .string ByteArray.empty, nilS, nilS]) 3 rfl 0 rfl (lb rfl))) F S rfl fun a F=>?_
     refine dv_ev ok3 1 rfl (ev_loadA tu27 rfl (cs := [.i6 0, .string ByteArray.empty, .string ByteArray.empty, nilS, nilS]) ts27 rfl (box_ptr (cells := [.i6 0, .string ByteArray.empty, .string ByteArray.empty, nilS, nilS]) 3 rfl 0 rfl (lb rfl))) F S rfl fun a F=>?_
     refine dv_et ok3 2 rfl (ev_fieldAddr' tu29 tf29_0 (z := 0) ts3 rfl ⟨_, rfl⟩ rfl) F rfl fun a F=>?_
     refine dv_ev ok3 3 rfl (ev_load1 tu3 rfl rfl (box_ptr (cells := [.i6 y4.2.2.2.Code]) 0 rfl 0 rfl (lb rfl))) F S rfl fun a F=>?_
     refine dv_et ok3 4 rfl (ev_build (parts := [(0, .tmp 84), (1, .const (.i6 (-1)))]) (vs := [(0, .i6 y4.2.2.2.Code), (1, .i6 (-1))]) rfl (fun w => tb29_0_1 y4.2.2.2.Code (-1) w)) F rfl fun a F=>?_
     refine dv_op ok3 5 rfl [(3, .i6 y4.2.2.2.Code), (1, .agg #[.i6 0, .string ByteArray.empty, .string ByteArray.empty, nilS, nilS])] ?_
     refine wl_storeC (wn rfl) rfl F S rfl rfl (vs := [.i6 0, .string ByteArray.empty, .string ByteArray.empty, nilS, nilS]) rfl ts27 (one_cons rfl (one_cons rfl (one_cons rfl (one_cons rfl (one_cons rfl one_nil))))) (k := 6) rfl (lb rfl) (c' := #[.i6 0, .string ByteArray.empty, .string ByteArray.empty, nilS, nilS]) rfl rfl ?_; clear S; intro w S
     refine dv_nx ⟨yl_ev rfl rfl (ev_load1 tu3 rfl rfl (box_ptr (cells := [.i6 y4.2.2.2.Code]) 0 rfl 0 rfl (lb rfl))) F S, yl_ev rfl rfl (ev_loadA tu27 rfl (cs := [.i6 0, .string ByteArray.empty, .string ByteArray.empty, nilS, nilS]) ts27 rfl (box_ptr (cells := [.i6 0, .string ByteArray.empty, .string ByteArray.empty, nilS, nilS]) 3 rfl 0 rfl (lb rfl))) F S, trivial⟩ ?_
     refine dv_op ok3 6 rfl [(3, .i6 y4.2.2.2.Code)] ?_
     refine wl_storeC (wn rfl) rfl F S rfl rfl (vs := [.i6 0, .string ByteArray.empty, .string ByteArray.empty, nilS, nilS]) rfl ts27 (one_cons rfl (one_cons rfl (one_cons rfl (one_cons rfl (one_cons rfl one_nil))))) (k := 5) rfl (lb rfl) (c' := #[.i6 0, .string ByteArray.empty, .string ByteArray.empty, nilS, nilS]) rfl rfl ?_; clear S; intro w S
     refine dv_nx ⟨yl_ev rfl rfl (ev_load1 tu3 rfl rfl (box_ptr (cells := [.i6 y4.2.2.2.Code]) 0 rfl 0 rfl (lb rfl))) F S, trivial⟩ ?_
     refine dv_et ok3 7 rfl (ev_assign rfl) F rfl fun a F=>?_
     refine dv_op ok3 8 rfl [] ?_
     refine wl_storeC (wn rfl) rfl F S rfl rfl (vs := [.i6 y4.2.2.2.Code, .i6 (-1)]) rfl ts29 (one_cons rfl (one_cons rfl one_nil)) (k := 4) rfl (lb rfl) (c' := #[.i6 y4.2.2.2.Code, .i6 (-1)]) rfl rfl ?_; clear S; intro w S
     refine dv_nx trivial ?_
     refine dv_fin ok3 ?_
     refine then_n ?_
     refine wp_ret ?_
     refine then_r ?_
     refine inb_r ?_
     refine then_r ?_
     obtain rfl := sinj hm
     refine post_r _ F rfl (ar_cons (resA rfl tu27 rfl (box_ptr (cells := [.i6 0, .string ByteArray.empty, .string ByteArray.empty, nilS, nilS]) 6 rfl 0 rfl (lb rfl) w S) ts27) (ar_cons (resA rfl tu27 rfl (box_ptr (cells := [.i6 0, .string ByteArray.empty, .string ByteArray.empty, nilS, nilS]) 5 rfl 0 rfl (lb rfl) w S) ts27) (ar_cons (resT rfl) (ar_cons (resA rfl tu29 rfl (box_ptr (cells := [.i6 y4.2.2.2.Code, .i6 (-1)]) 4 rfl 0 rfl (lb rfl) w S) ts29) ar_nil)))) ?_
     replace S : St g9 [] fr w := St.tail [] _ S
     exact ⟨_, rfl, g9, (nilS), (nilS), (nilS), (nilS), ((((((((l1.trans l2).trans l3).trans l4).trans l5).trans l6).trans l7).trans l8).trans l9), S, (RepSl.nil _), (RepSl.nil _), (RepSl.nil _), (RepSl.nil _), rfl⟩
    ·refine wp_condF F rfl hc5 ?_
     refine wp_skip ?_
     refine then_n ?_
     refine wp_seq ?_
     refine wp_seq ?_
     refine wp_region_lit ?_
     refine wE (ev_move rfl) F S rfl fun a F=>?_
     refine wE (ev_not rfl) F S rfl fun a F=>?_
     refine wpList_nil ?_
     refine then_n ?_
     obtain ⟨hc6, hm⟩ | ⟨hc6, hm⟩ := ite_or hm
     ·refine wp_condT F rfl hc6 ?_
      refine wp_seq ?_
      refine wp_dv [] mo S ?_; clear S; intro ok4 w S
      refine dv_ev ok4 0 rfl (ev_loadA tu27 rfl (cs := [.i6 0, .string ByteArray.empty, .string ByteArray.empty, nilS, nilS]) ts27 rfl (box_ptr (cells := [.i6 0, .string ByteArray.empty, .string ByteArray.empty, nilS, nilS]) 3 rfl 0 rfl (lb rfl))) F S rfl fun a F=>?_
      refine dv_ev ok4 1 rfl (ev_loadA tu27 rfl (cs := [.i6 0, .string ByteArray.empty, .string ByteArray.empty, nilS, nilS]) ts27 rfl (box_ptr (cells := [.i6 0, .string ByteArray.empty, .string ByteArray.empty, nilS, nilS]) 3 rfl 0 rfl (lb rfl))) F S rfl fun a F=>?_
      refine dv_et ok4 2 rfl (ev_build (parts := []) (vs := []) rfl (fun w => tb29_  w)) F rfl fun a F=>?_
      refine dv_op ok4 3 rfl [(1, .agg #[.i6 0, .string ByteArray.empty, .string ByteArray.empty, nilS, nilS])] ?_
      refine wl_storeC (wn rfl) rfl F S rfl rfl (vs := [.i6 0, .string ByteArray.empty, .string ByteArray.empty, nilS, nilS]) rfl ts27 (one_cons rfl (one_cons rfl (one_cons rfl (one_cons rfl (one_cons rfl one_nil))))) (k := 6) rfl (lb rfl) (c' := #[.i6 0, .string ByteArray.empty, .string ByteArray.empty, nilS, nilS]) rfl rfl ?_; clear S; intro w S
      refine dv_nx ⟨yl_ev rfl rfl (ev_loadA tu27 rfl (cs := [.i6 0, .string ByteArray.empty, .string ByteArray.empty, nilS, nilS]) ts27 rfl (box_ptr (cells := [.i6 0, .string ByteArray.empty, .string ByteArray.empty, nilS, nilS]) 3 rfl 0 rfl (lb rfl))) F S, trivial⟩ ?_
      refine dv_op ok4 4 rfl [] ?_
      refine wl_storeC (wn rfl) rfl F S rfl rfl (vs := [.i6 0, .string ByteArray.empty, .string ByteArray.empty, nilS, nilS]) rfl ts27 (one_cons rfl (one_cons rfl (one_cons rfl (one_cons rfl (one_cons rfl one_nil))))) (k := 5) rfl (lb rfl) (c' := #[.i6 0, .string ByteArray.empty, .string ByteArray.empty, nilS, nilS]) rfl rfl ?_; clear S; intro w S
      refine dv_nx trivial ?_
      refine dv_et ok4 5 rfl (ev_assign rfl) F rfl fun a F=>?_
      refine dv_op ok4 6 rfl [] ?_
      refine wl_storeC (wn rfl) rfl F S rfl rfl (vs := [.i6 0, .i6 0]) rfl ts29 (one_cons rfl (one_cons rfl one_nil)) (k := 4) rfl (lb rfl) (c' := #[.i6 0, .i6 0]) rfl rfl ?_; clear S; intro w S
      refine dv_nx trivial ?_
      refine dv_fin ok4 ?_
      refine then_n ?_
      refine wp_ret ?_
      refine then_r ?_
      refine inb_r ?_
      refine then_r ?_
      obtain rfl := sinj hm
      refine post_r _ F rfl (ar_cons (resA rfl tu27 rfl (box_ptr (cells := [.i6 0, .string ByteArray.empty, .string ByteArray.empty, nilS, nilS]) 6 rfl 0 rfl (lb rfl) w S) ts27) (ar_cons (resA rfl tu27 rfl (box_ptr (cells := [.i6 0, .string ByteArray.empty, .string ByteArray.empty, nilS, nilS]) 5 rfl 0 rfl (lb rfl) w S) ts27) (ar_cons (resT rfl) (ar_cons (resA rfl tu29 rfl (box_ptr (cells := [.i6 0, .i6 0]) 4 rfl 0 rfl (lb rfl) w S) ts29) ar_nil)))) ?_
      replace S : St g9 [] fr w := St.tail [] _ S
      exact ⟨_, rfl, g9, (nilS), (nilS), (nilS), (nilS), ((((((((l1.trans l2).trans l3).trans l4).trans l5).trans l6).trans l7).trans l8).trans l9), S, (RepSl.nil _), (RepSl.nil _), (RepSl.nil _), (RepSl.nil _), rfl⟩
     ·refine wp_condF F rfl hc6 ?_
      refine wp_skip ?_
      refine then_n ?_
      refine wp_seq ?_
      refine wp_dv [] mo S ?_; clear S; intro ok5 w S
      refine dv_et ok5 0 rfl (ev_fieldAddr' tu27 tf27_1 (z := 0) ts9 rfl ⟨_, rfl⟩ rfl) F rfl fun a F=>?_
      refine dv_ev ok5 1 rfl (ev_load1 tu9 rfl rfl (box_ptr (cells := [.string y2.Path]) 7 rfl 1 rfl (lb rfl))) F S rfl fun a F=>?_
      refine dv_ev ok5 2 rfl (ev_loadA tu25 rfl (cs := [v5]) ts25 rfl (box_ptr (cells := [v5]) 2 rfl 0 rfl (lb rfl))) F S rfl fun a F=>?_
      refine dv_et ok5 4 rfl (ev_fieldAddr' tu27 tf27_1 (z := 0) ts9 rfl ⟨_, rfl⟩ rfl) F rfl fun a F=>?_
      refine dv_ev ok5 5 rfl (ev_load1 tu9 rfl rfl (box_ptr (cells := [.string y1.Path]) 8 rfl 1 rfl (lb rfl))) F S rfl fun a F=>?_
      refine dv_ev ok5 6 rfl (ev_loadA tu25 rfl (cs := [v6]) ts25 rfl (box_ptr (cells := [v6]) 1 rfl 0 rfl (lb rfl))) F S rfl fun a F=>?_
      refine dv_et ok5 8 rfl (ev_build (parts := []) (vs := []) rfl (fun w => tb29_  w)) F rfl fun a F=>?_
      refine dv_op ok5 3 rfl [(6, .agg #[v6]), (5, .string y1.Path)] ?_
      obtain ⟨y5, hy5, hm⟩ := bind_some hm
      refine wl_call0 (wn rfl) rfl F rfl (treecommute_edit_ok (fr := (fl [[bx b9 #[.i6 y4.2.2.2.Code, .i6 y4.2.2.2.Index] 29], [bx b8 #[v6] 25], [bx b7 #[v5] 25], [bx b6 #[.i6 0, .string ByteArray.empty, .string ByteArray.empty, nilS, nilS] 27], [bx b5 #[.i6 0, .i6 0] 29], [bx b4 #[.i6 0, .string ByteArray.empty, .string ByteArray.empty, nilS, nilS] 27], [bx b3 #[.i6 0, .string ByteArray.empty, .string ByteArray.empty, nilS, nilS] 27], [bx b2 #[.i6 y2.Kind, .string y2.Path, .string y2.To, v3, v4] 27], [bx b1 #[.i6 y1.Kind, .string y1.Path, .string y1.To, v1, v2] 27]] fr)) y2.Path y4.1 v5 h9 S hy5) rfl tc34 rfl rfl ?_; clear F a S
      rintro _ a w ⟨g10, v7, v8, l10, S, h11, h12, rfl⟩ F; replace S : St g10 [[bx b9 #[.i6 y4.2.2.2.Code, .i6 y4.2.2.2.Index] 29], [bx b8 #[v6] 25], [bx b7 #[v5] 25], [bx b6 #[.i6 0, .string ByteArray.empty, .string ByteArray.empty, nilS, nilS] 27], [bx b5 #[.i6 0, .i6 0] 29], [bx b4 #[.i6 0, .string ByteArray.empty, .string ByteArray.empty, nilS, nilS] 27], [bx b3 #[.i6 0, .string ByteArray.empty, .string ByteArray.empty, nilS, nilS] 27], [bx b2 #[.i6 y2.Kind, .string y2.Path, .string y2.To, v3, v4] 27], [bx b1 #[.i6 y1.Kind, .string y1.Path, .string y1.To, v1, v2] 27]] fr w := S
      refine dv_nx ⟨yl_ev rfl rfl (ev_loadA tu25 rfl (cs := [v6]) ts25 rfl (box_ptr (cells := [v6]) 1 rfl 0 rfl (lb rfl))) F S, yl_ev rfl rfl (ev_load1 tu9 rfl rfl (box_ptr (cells := [.string y1.Path]) 8 rfl 1 rfl (lb rfl))) F S, trivial⟩ ?_
      refine dv_op ok5 7 rfl [] ?_
      obtain ⟨y6, hy6, hm⟩ := bind_some hm
      refine wl_call0 (wn rfl) rfl F rfl (treecommute_edit_ok (fr := (fl [[bx b9 #[.i6 y4.2.2.2.Code, .i6 y4.2.2.2.Index] 29], [bx b8 #[v6] 25], [bx b7 #[v5] 25], [bx b6 #[.i6 0, .string ByteArray.empty, .string ByteArray.empty, nilS, nilS] 27], [bx b5 #[.i6 0, .i6 0] 29], [bx b4 #[.i6 0, .string ByteArray.empty, .string ByteArray.empty, nilS, nilS] 27], [bx b3 #[.i6 0, .string ByteArray.empty, .string ByteArray.empty, nilS, nilS] 27], [bx b2 #[.i6 y2.Kind, .string y2.Path, .string y2.To, v3, v4] 27], [bx b1 #[.i6 y1.Kind, .string y1.Path, .string y1.To, v1, v2] 27]] fr)) y1.Path y4.2.1 v6 (h10.mono l10) S hy6) rfl tc34 rfl rfl ?_; clear F a S
      rintro _ a w ⟨g11, v9, v10, l11, S, h13, h14, rfl⟩ F; replace S : St g11 [[bx b9 #[.i6 y4.2.2.2.Code, .i6 y4.2.2.2.Index] 29], [bx b8 #[v6] 25], [bx b7 #[v5] 25], [bx b6 #[.i6 0, .string ByteArray.empty, .string ByteArray.empty, nilS, nilS] 27], [bx b5 #[.i6 0, .i6 0] 29], [bx b4 #[.i6 0, .string ByteArray.empty, .string ByteArray.empty, nilS, nilS] 27], [bx b3 #[.i6 0, .string ByteArray.empty, .string ByteArray.empty, nilS, nilS] 27], [bx b2 #[.i6 y2.Kind, .string y2.Path, .string y2.To, v3, v4] 27], [bx b1 #[.i6 y1.Kind, .string y1.Path, .string y1.To, v1, v2] 27]] fr w := S
      refine dv_nx trivial ?_
      refine dv_op ok5 9 rfl [] ?_
      refine wl_storeC (wn rfl) rfl F S rfl rfl (vs := [.i6 y5.Kind, .string y5.Path, .string y5.To, v7, v8]) rfl ts27 (one_cons rfl (one_cons rfl (one_cons rfl (one_cons h11.one (one_cons h12.one one_nil))))) (k := 6) rfl (lb rfl) (c' := #[.i6 y5.Kind, .string y5.Path, .string y5.To, v7, v8]) rfl rfl ?_; clear S; intro w S
      refine dv_nx trivial ?_
      refine dv_op ok5 10 rfl [] ?_
      refine wl_storeC (wn rfl) rfl F S rfl rfl (vs := [.i6 y6.Kind, .string y6.Path, .string y6.To, v9, v10]) rfl ts27 (one_cons rfl (one_cons rfl (one_cons rfl (one_cons h13.one (one_cons h14.one one_nil))))) (k := 5) rfl (lb rfl) (c' := #[.i6 y6.Kind, .string y6.Path, .string y6.To, v9, v10]) rfl rfl ?_; clear S; intro w S
      refine dv_nx trivial ?_
      refine dv_et ok5 11 rfl (ev_assign rfl) F rfl fun a F=>?_
      refine dv_op ok5 12 rfl [] ?_
      refine wl_storeC (wn rfl) rfl F S rfl rfl (vs := [.i6 0, .i6 0]) rfl ts29 (one_cons rfl (one_cons rfl one_nil)) (k := 4) rfl (lb rfl) (c' := #[.i6 0, .i6 0]) rfl rfl ?_; clear S; intro w S
      refine dv_nx trivial ?_
      refine dv_fin ok5 ?_
      refine then_n ?_
      refine wp_ret ?_
      refine inb_r ?_
      refine then_r ?_
      obtain rfl := sinj hm
      refine post_r _ F rfl (ar_cons (resA rfl tu27 rfl (box_ptr (cells := [.i6 y5.Kind, .string y5.Path, .string y5.To, v7, v8]) 6 rfl 0 rfl (lb rfl) w S) ts27) (ar_cons (resA rfl tu27 rfl (box_ptr (cells := [.i6 y6.Kind, .string y6.Path, .string y6.To, v9, v10]) 5 rfl 0 rfl (lb rfl) w S) ts27) (ar_cons (resT rfl) (ar_cons (resA rfl tu29 rfl (box_ptr (cells := [.i6 0, .i6 0]) 4 rfl 0 rfl (lb rfl) w S) ts29) ar_nil)))) ?_
      replace S : St g11 [] fr w := St.tail [] _ S
      exact ⟨_, rfl, g11, v7, v8, v9, v10, ((((((((((l1.trans l2).trans l3).trans l4).trans l5).trans l6).trans l7).trans l8).trans l9).trans l10).trans l11), S, (h11.mono l11), (h12.mono l11), h13, h14, rfl⟩
   ·refine wp_condF F rfl hc4 ?_
    refine wp_seq ?_
    refine wp_region_lit ?_
    refine wE (ev_fieldAddr' tu27 tf27_0 (z := 0) ts3 rfl ⟨_, rfl⟩ rfl) F S rfl fun a F=>?_
    refine wE (ev_load1 tu3 rfl rfl (box_ptr (cells := [.i6 y1.Kind]) 5 rfl 0 rfl (lb rfl))) F S rfl fun a F=>?_
    refine wE (ev_int rfl rfl (bo_eql _ _ _ _)) F S rfl fun a F=>?_
    refine wE (ev_move rfl) F S rfl fun a F=>?_
    obtain ⟨x3, hx3, hm⟩ := bind_some hm
    refine wl_cut 2 (fun a w' => w = w' ∧ Fr 145 a [(106, .bool x3), (12, .bool (decide (y1.Kind = 4))), (8, bp b6 0), (7, bp b5 0), (5, bp b4 0), (4, bp b3 0), (3, bp b2 0), (2, bp b1 0)]) ?_ ?_
    ·clear hm; obtain ⟨hc7, hm⟩ | ⟨hc7, hm⟩ := ite_or hx3
     ·refine wl_ev (wg F rfl rfl rfl rfl hc7) (ev_move rfl) F S rfl rfl ?_; clear F a; intro a F
      refine wE (ev_pickT rfl hc7 rfl) F S rfl fun a F=>?_
      obtain rfl := sinj hm
      refine wpList_nil (then_n ?_); exact ⟨rfl, F.sub ⟨rfl, rfl, rfl, rfl, rfl, rfl, rfl, rfl, trivial⟩⟩
     ·refine wl_skip rfl rfl rfl rfl (ne_tf hc7) F rfl rfl ?_; clear F a; intro a F
      refine wE (ev_pickF rfl hc7 rfl) F S rfl fun a F=>?_
      obtain rfl := sinj hm
      refine wpList_nil (then_n ?_); exact ⟨rfl, F.sub ⟨rfl, rfl, rfl, rfl, rfl, rfl, rfl, rfl, trivial⟩⟩
    clear F; rintro a w' ⟨rfl, F⟩
    refine wE (ev_move rfl) F S rfl fun a F=>?_
    obtain ⟨x4, hx4, hm⟩ := bind_some hm
    refine wl_cut 6 (fun a w' => w = w' ∧ Fr 145 a [(113, .bool x4), (12, .bool (decide (y1.Kind = 4))), (8, bp b6 0), (7, bp b5 0), (5, bp b4 0), (4, bp b3 0), (3, bp b2 0), (2, bp b1 0)]) ?_ ?_
    ·clear hm; obtain ⟨hc8, hm⟩ | ⟨hc8, hm⟩ := ite_or hx4
     ·refine wl_ev (wg F rfl rfl rfl rfl hc8) (ev_fieldAddr' tu27 tf27_1 (z := 0) ts9 rfl ⟨_, rfl⟩ rfl) F S rfl rfl ?_; clear F a; intro a F
      refine wl_ev (wg F rfl rfl rfl rfl hc8) (ev_load1 tu9 rfl rfl (box_ptr (cells := [.string y2.Path]) 4 rfl 1 rfl (lb rfl))) F S rfl rfl ?_; clear F a; intro a F
      refine wl_ev (wg F rfl rfl rfl rfl hc8) (ev_fieldAddr' tu27 tf27_2 (z := 0) ts9 rfl ⟨_, rfl⟩ rfl) F S rfl rfl ?_; clear F a; intro a F
      refine wl_ev (wg F rfl rfl rfl rfl hc8) (ev_load1 tu9 rfl rfl (box_ptr (cells := [.string y1.To]) 5 rfl 2 rfl (lb rfl))) F S rfl rfl ?_; clear F a; intro a F
      refine wl_ev (wg F rfl rfl rfl rfl hc8) (ev_str rfl rfl (bs_eql _ _ _)) F S rfl rfl ?_; clear F a; intro a F
      refine wE (ev_pickT rfl hc8 rfl) F S rfl fun a F=>?_
      obtain rfl := sinj hm
      refine wpList_nil (then_n ?_); exact ⟨rfl, F.sub ⟨rfl, rfl, rfl, rfl, rfl, rfl, rfl, rfl, trivial⟩⟩
     ·refine wl_skip rfl rfl rfl rfl (ne_tf hc8) F rfl rfl ?_; clear F a; intro a F
      refine wl_skip rfl rfl rfl rfl (ne_tf hc8) F rfl rfl ?_; clear F a; intro a F
      refine wl_skip rfl rfl rfl rfl (ne_tf hc8) F rfl rfl ?_; clear F a; intro a F
      refine wl_skip rfl rfl rfl rfl (ne_tf hc8) F rfl rfl ?_; clear F a; intro a F
      refine wl_skip rfl rfl rfl rfl (ne_tf hc8) F rfl rfl ?_; clear F a; intro a F
      refine wE (ev_pickF rfl hc8 rfl) F S rfl fun a F=>?_
      obtain rfl := sinj hm
      refine wpList_nil (then_n ?_); exact ⟨rfl, F.sub ⟨rfl, rfl, rfl, rfl, rfl, rfl, rfl, rfl, trivial⟩⟩
    clear F; rintro a w' ⟨rfl, F⟩
    refine wE (ev_assign rfl) F S rfl fun a F=>?_
    refine wpList_nil ?_
    refine then_n ?_
    obtain ⟨hc9, hm⟩ | ⟨hc9, hm⟩ := ite_or hm
    ·refine wp_condT F rfl hc9 ?_
     refine wp_seq ?_
     refine wp_dv [] mo S ?_; clear S; intro ok6 w S
     refine dv_et ok6 0 rfl (ev_fieldAddr' tu27 tf27_1 (z := 0) ts9 rfl ⟨_, rfl⟩ rfl) F rfl fun a F=>?_
     refine dv_ev ok6 1 rfl (ev_load1 tu9 rfl rfl (box_ptr (cells := [.string y1.Path]) 5 rfl 1 rfl (lb rfl))) F S rfl fun a F=>?_
     refine dv_et ok6 2 rfl (ev_fieldAddr' tu27 tf27_4 (z := 0) ts25 rfl ⟨_, rfl⟩ rfl) F rfl fun a F=>?_
     refine dv_ev ok6 3 rfl (ev_loadA tu25 rfl (cs := [v4]) ts25 rfl (box_ptr (cells := [v4]) 4 rfl 4 rfl (lb rfl))) F S rfl fun a F=>?_
     refine dv_ev ok6 5 rfl (ev_loadA tu27 rfl (cs := [.i6 y1.Kind, .string y1.Path, .string y1.To, v1, v2]) ts27 rfl (box_ptr (cells := [.i6 y1.Kind, .string y1.Path, .string y1.To, v1, v2]) 5 rfl 0 rfl (lb rfl))) F S rfl fun a F=>?_
     refine dv_et ok6 6 rfl (ev_build (parts := []) (vs := []) rfl (fun w => tb29_  w)) F rfl fun a F=>?_
     refine dv_op ok6 4 rfl [(5, .agg #[.i6 y1.Kind, .string y1.Path, .string y1.To, v1, v2])] ?_
     obtain ⟨y7, hy7, hm⟩ := bind_some hm
     refine wl_call0 (wn rfl) rfl F rfl (treecommute_edit_ok (fr := (fl [[bx b6 #[.i6 0, .string ByteArray.empty, .string ByteArray.empty, nilS, nilS] 27], [bx b5 #[.i6 0, .i6 0] 29], [bx b4 #[.i6 0, .string ByteArray.empty, .string ByteArray.empty, nilS, nilS] 27], [bx b3 #[.i6 0, .string ByteArray.empty, .string ByteArray.empty, nilS, nilS] 27], [bx b2 #[.i6 y2.Kind, .string y2.Path, .string y2.To, v3, v4] 27], [bx b1 #[.i6 y1.Kind, .string y1.Path, .string y1.To, v1, v2] 27]] fr)) y1.Path y2.Patch v4 (h8.mono l8) S hy7) rfl tc34 rfl rfl ?_; clear F a S
     rintro _ a w ⟨g12, v11, v12, l12, S, h15, h16, rfl⟩ F; replace S : St g12 [[bx b6 #[.i6 0, .string ByteArray.empty, .string ByteArray.empty, nilS, nilS] 27], [bx b5 #[.i6 0, .i6 0] 29], [bx b4 #[.i6 0, .string ByteArray.empty, .string ByteArray.empty, nilS, nilS] 27], [bx b3 #[.i6 0, .string ByteArray.empty, .string ByteArray.empty, nilS, nilS] 27], [bx b2 #[.i6 y2.Kind, .string y2.Path, .string y2.To, v3, v4] 27], [bx b1 #[.i6 y1.Kind, .string y1.Path, .string y1.To, v1, v2] 27]] fr w := S
     refine dv_nx ⟨yl_ev rfl rfl (ev_loadA tu27 rfl (cs := [.i6 y1.Kind, .string y1.Path, .string y1.To, v1, v2]) ts27 rfl (box_ptr (cells := [.i6 y1.Kind, .string y1.Path, .string y1.To, v1, v2]) 5 rfl 0 rfl (lb rfl))) F S, trivial⟩ ?_
     refine dv_op ok6 7 rfl [(5, .agg #[.i6 y1.Kind, .string y1.Path, .string y1.To, v1, v2])] ?_
     refine wl_storeC (wn rfl) rfl F S rfl rfl (vs := [.i6 y7.Kind, .string y7.Path, .string y7.To, v11, v12]) rfl ts27 (one_cons rfl (one_cons rfl (one_cons rfl (one_cons h15.one (one_cons h16.one one_nil))))) (k := 3) rfl (lb rfl) (c' := #[.i6 y7.Kind, .string y7.Path, .string y7.To, v11, v12]) rfl rfl ?_; clear S; intro w S
     refine dv_nx ⟨yl_ev rfl rfl (ev_loadA tu27 rfl (cs := [.i6 y1.Kind, .string y1.Path, .string y1.To, v1, v2]) ts27 rfl (box_ptr (cells := [.i6 y1.Kind, .string y1.Path, .string y1.To, v1, v2]) 5 rfl 0 rfl (lb rfl))) F S, trivial⟩ ?_
     refine dv_op ok6 8 rfl [] ?_
     refine wl_storeC (wn rfl) rfl F S rfl rfl (vs := [.i6 y1.Kind, .string y1.Path, .string y1.To, v1, v2]) rfl ts27 (one_cons rfl (one_cons rfl (one_cons rfl (one_cons h5.one (one_cons h6.one one_nil))))) (k := 2) rfl (lb rfl) (c' := #[.i6 y1.Kind, .string y1.Path, .string y1.To, v1, v2]) rfl rfl ?_; clear S; intro w S
     refine dv_nx trivial ?_
     refine dv_et ok6 9 rfl (ev_assign rfl) F rfl fun a F=>?_
     refine dv_op ok6 10 rfl [] ?_
     refine wl_storeC (wn rfl) rfl F S rfl rfl (vs := [.i6 0, .i6 0]) rfl ts29 (one_cons rfl (one_cons rfl one_nil)) (k := 1) rfl (lb rfl) (c' := #[.i6 0, .i6 0]) rfl rfl ?_; clear S; intro w S
     refine dv_nx trivial ?_
     refine dv_fin ok6 ?_
     refine then_n ?_
     refine wp_ret ?_
     refine inb_r ?_
     refine then_r ?_
     obtain rfl := sinj hm
     refine post_r _ F rfl (ar_cons (resA rfl tu27 rfl (box_ptr (cells := [.i6 y7.Kind, .string y7.Path, .string y7.To, v11, v12]) 3 rfl 0 rfl (lb rfl) w S) ts27) (ar_cons (resA rfl tu27 rfl (box_ptr (cells := [.i6 y1.Kind, .string y1.Path, .string y1.To, v1, v2]) 2 rfl 0 rfl (lb rfl) w S) ts27) (ar_cons (resT rfl) (ar_cons (resA rfl tu29 rfl (box_ptr (cells := [.i6 0, .i6 0]) 1 rfl 0 rfl (lb rfl) w S) ts29) ar_nil)))) ?_
     replace S : St g12 [] fr w := St.tail [] _ S
     exact ⟨_, rfl, g12, v11, v12, v1, v2, ((((((((l1.trans l2).trans l3).trans l4).trans l5).trans l6).trans l7).trans l8).trans l12), S, h15, h16, (h5.mono ((((l5.trans l6).trans l7).trans l8).trans l12)), (h6.mono (((l6.trans l7).trans l8).trans l12)), rfl⟩
    ·refine wp_condF F rfl hc9 ?_
     refine wp_seq ?_
     refine wp_region_lit ?_
     refine wE (ev_move rfl) F S rfl fun a F=>?_
     refine wE (ev_move rfl) F S rfl fun a F=>?_
     obtain ⟨x5, hx5, hm⟩ := bind_some hm
     refine wl_cut 4 (fun a w' => w = w' ∧ Fr 145 a [(127, .bool x5), (8, bp b6 0), (7, bp b5 0), (5, bp b4 0), (4, bp b3 0), (3, bp b2 0), (2, bp b1 0)]) ?_ ?_
     ·clear hm; obtain ⟨hc10, hm⟩ | ⟨hc10, hm⟩ := ite_or hx5
      ·refine wl_ev (wg F rfl rfl rfl rfl hc10) (ev_fieldAddr' tu27 tf27_0 (z := 0) ts3 rfl ⟨_, rfl⟩ rfl) F S rfl rfl ?_; clear F a; intro a F
       refine wl_ev (wg F rfl rfl rfl rfl hc10) (ev_load1 tu3 rfl rfl (box_ptr (cells := [.i6 y2.Kind]) 4 rfl 0 rfl (lb rfl))) F S rfl rfl ?_; clear F a; intro a F
       refine wl_ev (wg F rfl rfl rfl rfl hc10) (ev_int rfl rfl (bo_eql _ _ _ _)) F S rfl rfl ?_; clear F a; intro a F
       refine wE (ev_pickT rfl hc10 rfl) F S rfl fun a F=>?_
       obtain rfl := sinj hm
       refine wpList_nil (then_n ?_); exact ⟨rfl, F.sub ⟨rfl, rfl, rfl, rfl, rfl, rfl, rfl, trivial⟩⟩
      ·refine wl_skip rfl rfl rfl rfl (ne_tf hc10) F rfl rfl ?_; clear F a; intro a F
       refine wl_skip rfl rfl rfl rfl (ne_tf hc10) F rfl rfl ?_; clear F a; intro a F
       refine wl_skip rfl rfl rfl rfl (ne_tf hc10) F rfl rfl ?_; clear F a; intro a F
       refine wE (ev_pickF rfl hc10 rfl) F S rfl fun a F=>?_
       obtain rfl := sinj hm
       refine wpList_nil (then_n ?_); exact ⟨rfl, F.sub ⟨rfl, rfl, rfl, rfl, rfl, rfl, rfl, trivial⟩⟩
     clear F; rintro a w' ⟨rfl, F⟩
     refine wE (ev_move rfl) F S rfl fun a F=>?_
     obtain ⟨x6, hx6, hm⟩ := bind_some hm
     refine wl_cut 6 (fun a w' => w = w' ∧ Fr 145 a [(134, .bool x6), (8, bp b6 0), (7, bp b5 0), (5, bp b4 0), (4, bp b3 0), (3, bp b2 0), (2, bp b1 0)]) ?_ ?_
     ·clear hm; obtain ⟨hc11, hm⟩ | ⟨hc11, hm⟩ := ite_or hx6
      ·refine wl_ev (wg F rfl rfl rfl rfl hc11) (ev_fieldAddr' tu27 tf27_1 (z := 0) ts9 rfl ⟨_, rfl⟩ rfl) F S rfl rfl ?_; clear F a; intro a F
       refine wl_ev (wg F rfl rfl rfl rfl hc11) (ev_load1 tu9 rfl rfl (box_ptr (cells := [.string y2.Path]) 4 rfl 1 rfl (lb rfl))) F S rfl rfl ?_; clear F a; intro a F
       refine wl_ev (wg F rfl rfl rfl rfl hc11) (ev_fieldAddr' tu27 tf27_1 (z := 0) ts9 rfl ⟨_, rfl⟩ rfl) F S rfl rfl ?_; clear F a; intro a F
       refine wl_ev (wg F rfl rfl rfl rfl hc11) (ev_load1 tu9 rfl rfl (box_ptr (cells := [.string y1.Path]) 5 rfl 1 rfl (lb rfl))) F S rfl rfl ?_; clear F a; intro a F
       refine wl_ev (wg F rfl rfl rfl rfl hc11) (ev_str rfl rfl (bs_eql _ _ _)) F S rfl rfl ?_; clear F a; intro a F
       refine wE (ev_pickT rfl hc11 rfl) F S rfl fun a F=>?_
       obtain rfl := sinj hm
       refine wpList_nil (then_n ?_); exact ⟨rfl, F.sub ⟨rfl, rfl, rfl, rfl, rfl, rfl, rfl, trivial⟩⟩
      ·refine wl_skip rfl rfl rfl rfl (ne_tf hc11) F rfl rfl ?_; clear F a; intro a F
       refine wl_skip rfl rfl rfl rfl (ne_tf hc11) F rfl rfl ?_; clear F a; intro a F
       refine wl_skip rfl rfl rfl rfl (ne_tf hc11) F rfl rfl ?_; clear F a; intro a F
       refine wl_skip rfl rfl rfl rfl (ne_tf hc11) F rfl rfl ?_; clear F a; intro a F
       refine wl_skip rfl rfl rfl rfl (ne_tf hc11) F rfl rfl ?_; clear F a; intro a F
       refine wE (ev_pickF rfl hc11 rfl) F S rfl fun a F=>?_
       obtain rfl := sinj hm
       refine wpList_nil (then_n ?_); exact ⟨rfl, F.sub ⟨rfl, rfl, rfl, rfl, rfl, rfl, rfl, trivial⟩⟩
     clear F; rintro a w' ⟨rfl, F⟩
     refine wE (ev_assign rfl) F S rfl fun a F=>?_
     refine wpList_nil ?_
     refine then_n ?_
     obtain ⟨hc12, hm⟩ | ⟨hc12, hm⟩ := ite_or hm
     ·refine wp_condT F rfl hc12 ?_
      refine wp_seq ?_
      refine wp_dv [] mo S ?_; clear S; intro ok7 w S
      refine dv_ev ok7 0 rfl (ev_loadA tu27 rfl (cs := [.i6 y2.Kind, .string y2.Path, .string y2.To, v3, v4]) ts27 rfl (box_ptr (cells := [.i6 y2.Kind, .string y2.Path, .string y2.To, v3, v4]) 4 rfl 0 rfl (lb rfl))) F S rfl fun a F=>?_
      refine dv_et ok7 1 rfl (ev_fieldAddr' tu27 tf27_2 (z := 0) ts9 rfl ⟨_, rfl⟩ rfl) F rfl fun a F=>?_
      refine dv_ev ok7 2 rfl (ev_load1 tu9 rfl rfl (box_ptr (cells := [.string y2.To]) 4 rfl 2 rfl (lb rfl))) F S rfl fun a F=>?_
      refine dv_et ok7 3 rfl (ev_fieldAddr' tu27 tf27_4 (z := 0) ts25 rfl ⟨_, rfl⟩ rfl) F rfl fun a F=>?_
      refine dv_ev ok7 4 rfl (ev_loadA tu25 rfl (cs := [v2]) ts25 rfl (box_ptr (cells := [v2]) 5 rfl 4 rfl (lb rfl))) F S rfl fun a F=>?_
      refine dv_et ok7 6 rfl (ev_build (parts := []) (vs := []) rfl (fun w => tb29_  w)) F rfl fun a F=>?_
      refine dv_op ok7 5 rfl [(0, .agg #[.i6 y2.Kind, .string y2.Path, .string y2.To, v3, v4])] ?_
      obtain ⟨y8, hy8, hm⟩ := bind_some hm
      refine wl_call0 (wn rfl) rfl F rfl (treecommute_edit_ok (fr := (fl [[bx b6 #[.i6 0, .string ByteArray.empty, .string ByteArray.empty, nilS, nilS] 27], [bx b5 #[.i6 0, .i6 0] 29], [bx b4 #[.i6 0, .string ByteArray.empty, .string ByteArray.empty, nilS, nilS] 27], [bx b3 #[.i6 0, .string ByteArray.empty, .string ByteArray.empty, nilS, nilS] 27], [bx b2 #[.i6 y2.Kind, .string y2.Path, .string y2.To, v3, v4] 27], [bx b1 #[.i6 y1.Kind, .string y1.Path, .string y1.To, v1, v2] 27]] fr)) y2.To y1.Patch v2 (h6.mono ((l6.trans l7).trans l8)) S hy8) rfl tc34 rfl rfl ?_; clear F a S
      rintro _ a w ⟨g13, v13, v14, l13, S, h17, h18, rfl⟩ F; replace S : St g13 [[bx b6 #[.i6 0, .string ByteArray.empty, .string ByteArray.empty, nilS, nilS] 27], [bx b5 #[.i6 0, .i6 0] 29], [bx b4 #[.i6 0, .string ByteArray.empty, .string ByteArray.empty, nilS, nilS] 27], [bx b3 #[.i6 0, .string ByteArray.empty, .string ByteArray.empty, nilS, nilS] 27], [bx b2 #[.i6 y2.Kind, .string y2.Path, .string y2.To, v3, v4] 27], [bx b1 #[.i6 y1.Kind, .string y1.Path, .string y1.To, v1, v2] 27]] fr w := S
      refine dv_nx ⟨yl_ev rfl rfl (ev_loadA tu27 rfl (cs := [.i6 y2.Kind, .string y2.Path, .string y2.To, v3, v4]) ts27 rfl (box_ptr (cells := [.i6 y2.Kind, .string y2.Path, .string y2.To, v3, v4]) 4 rfl 0 rfl (lb rfl))) F S, trivial⟩ ?_
      refine dv_op ok7 7 rfl [] ?_
      refine wl_storeC (wn rfl) rfl F S rfl rfl (vs := [.i6 y2.Kind, .string y2.Path, .string y2.To, v3, v4]) rfl ts27 (one_cons rfl (one_cons rfl (one_cons rfl (one_cons h7.one (one_cons h8.one one_nil))))) (k := 3) rfl (lb rfl) (c' := #[.i6 y2.Kind, .string y2.Path, .string y2.To, v3, v4]) rfl rfl ?_; clear S; intro w S
      refine dv_nx trivial ?_
      refine dv_op ok7 8 rfl [] ?_
      refine wl_storeC (wn rfl) rfl F S rfl rfl (vs := [.i6 y8.Kind, .string y8.Path, .string y8.To, v13, v14]) rfl ts27 (one_cons rfl (one_cons rfl (one_cons rfl (one_cons h17.one (one_cons h18.one one_nil))))) (k := 2) rfl (lb rfl) (c' := #[.i6 y8.Kind, .string y8.Path, .string y8.To, v13, v14]) rfl rfl ?_; clear S; intro w S
      refine dv_nx trivial ?_
      refine dv_et ok7 9 rfl (ev_assign rfl) F rfl fun a F=>?_
      refine dv_op ok7 10 rfl [] ?_
      refine wl_storeC (wn rfl) rfl F S rfl rfl (vs := [.i6 0, .i6 0]) rfl ts29 (one_cons rfl (one_cons rfl one_nil)) (k := 1) rfl (lb rfl) (c' := #[.i6 0, .i6 0]) rfl rfl ?_; clear S; intro w S
      refine dv_nx trivial ?_
      refine dv_fin ok7 ?_
      refine then_n ?_
      refine wp_ret ?_
      refine inb_r ?_
      refine then_r ?_
      obtain rfl := sinj hm
      refine post_r _ F rfl (ar_cons (resA rfl tu27 rfl (box_ptr (cells := [.i6 y2.Kind, .string y2.Path, .string y2.To, v3, v4]) 3 rfl 0 rfl (lb rfl) w S) ts27) (ar_cons (resA rfl tu27 rfl (box_ptr (cells := [.i6 y8.Kind, .string y8.Path, .string y8.To, v13, v14]) 2 rfl 0 rfl (lb rfl) w S) ts27) (ar_cons (resT rfl) (ar_cons (resA rfl tu29 rfl (box_ptr (cells := [.i6 0, .i6 0]) 1 rfl 0 rfl (lb rfl) w S) ts29) ar_nil)))) ?_
      replace S : St g13 [] fr w := St.tail [] _ S
      exact ⟨_, rfl, g13, v3, v4, v13, v14, ((((((((l1.trans l2).trans l3).trans l4).trans l5).trans l6).trans l7).trans l8).trans l13), S, (h7.mono ((l7.trans l8).trans l13)), (h8.mono (l8.trans l13)), h17, h18, rfl⟩
     ·refine wp_condF F rfl hc12 ?_
      refine wp_skip ?_
      refine inb_n ?_
      refine then_n ?_
      refine wp_seq ?_
      refine wp_dv [] mo S ?_; clear S; intro ok8 w S
      refine dv_ev ok8 0 rfl (ev_loadA tu27 rfl (cs := [.i6 0, .string ByteArray.empty, .string ByteArray.empty, nilS, nilS]) ts27 rfl (box_ptr (cells := [.i6 0, .string ByteArray.empty, .string ByteArray.empty, nilS, nilS]) 0 rfl 0 rfl (lb rfl))) F S rfl fun a F=>?_
      refine dv_ev ok8 1 rfl (ev_loadA tu27 rfl (cs := [.i6 0, .string ByteArray.empty, .string ByteArray.empty, nilS, nilS]) ts27 rfl (box_ptr (cells := [.i6 0, .string ByteArray.empty, .string ByteArray.empty, nilS, nilS]) 0 rfl 0 rfl (lb rfl))) F S rfl fun a F=>?_
      refine dv_et ok8 2 rfl (ev_build (parts := []) (vs := []) rfl (fun w => tb29_  w)) F rfl fun a F=>?_
      refine dv_op ok8 3 rfl [(1, .agg #[.i6 0, .string ByteArray.empty, .string ByteArray.empty, nilS, nilS])] ?_
      refine wl_storeC (wn rfl) rfl F S rfl rfl (vs := [.i6 0, .string ByteArray.empty, .string ByteArray.empty, nilS, nilS]) rfl ts27 (one_cons rfl (one_cons rfl (one_cons rfl (one_cons rfl (one_cons rfl one_nil))))) (k := 3) rfl (lb rfl) (c' := #[.i6 0, .string ByteArray.empty, .string ByteArray.empty, nilS, nilS]) rfl rfl ?_; clear S; intro w S
      refine dv_nx ⟨yl_ev rfl rfl (ev_loadA tu27 rfl (cs := [.i6 0, .string ByteArray.empty, .string ByteArray.empty, nilS, nilS]) ts27 rfl (box_ptr (cells := [.i6 0, .string ByteArray.empty, .string ByteArray.empty, nilS, nilS]) 0 rfl 0 rfl (lb rfl))) F S, trivial⟩ ?_
      refine dv_op ok8 4 rfl [] ?_
      refine wl_storeC (wn rfl) rfl F S rfl rfl (vs := [.i6 0, .string ByteArray.empty, .string ByteArray.empty, nilS, nilS]) rfl ts27 (one_cons rfl (one_cons rfl (one_cons rfl (one_cons rfl (one_cons rfl one_nil))))) (k := 2) rfl (lb rfl) (c' := #[.i6 0, .string ByteArray.empty, .string ByteArray.empty, nilS, nilS]) rfl rfl ?_; clear S; intro w S
      refine dv_nx trivial ?_
      refine dv_et ok8 5 rfl (ev_assign rfl) F rfl fun a F=>?_
      refine dv_op ok8 6 rfl [] ?_
      refine wl_storeC (wn rfl) rfl F S rfl rfl (vs := [.i6 0, .i6 0]) rfl ts29 (one_cons rfl (one_cons rfl one_nil)) (k := 1) rfl (lb rfl) (c' := #[.i6 0, .i6 0]) rfl rfl ?_; clear S; intro w S
      refine dv_nx trivial ?_
      refine dv_fin ok8 ?_
      refine then_n ?_
      refine wp_ret ?_
      obtain rfl := sinj hm
      refine post_r _ F rfl (ar_cons (resA rfl tu27 rfl (box_ptr (cells := [.i6 0, .string ByteArray.empty, .string ByteArray.empty, nilS, nilS]) 3 rfl 0 rfl (lb rfl) w S) ts27) (ar_cons (resA rfl tu27 rfl (box_ptr (cells := [.i6 0, .string ByteArray.empty, .string ByteArray.empty, nilS, nilS]) 2 rfl 0 rfl (lb rfl) w S) ts27) (ar_cons (resT rfl) (ar_cons (resA rfl tu29 rfl (box_ptr (cells := [.i6 0, .i6 0]) 1 rfl 0 rfl (lb rfl) w S) ts29) ar_nil)))) ?_
      replace S : St g8 [] fr w := St.tail [] _ S
      exact ⟨_, rfl, g8, (nilS), (nilS), (nilS), (nilS), (((((((l1.trans l2).trans l3).trans l4).trans l5).trans l6).trans l7).trans l8), S, (RepSl.nil _), (RepSl.nil _), (RepSl.nil _), (RepSl.nil _), rfl⟩

theorem changeforgeequal_Patch_ok {g : Gh} {fr : Hl} {w : World} {r : Bool} (a_ : Patch) (va_1 : Value) (ha_1 : RepSl g a_.Hunks va_1) (b_ : Patch) (vb_1 : Value) (hb_1 : RepSl g b_.Hunks vb_1) (S : St g [] fr w) (hm : changeforgeequal_Patch a_ b_ = some r) :
  Calls Tryd.prog 40 [.agg #[va_1], .agg #[vb_1]].toArray w (fun en w' => ∃ v, en = .returned v ∧ ∃ (g' : Gh), Le g g' ∧ St g' [] fr w' ∧ .bool r = v) := by
 unfold changeforgeequal_Patch at hm
 refine calls_enter (fn := Tryd.f40) Tryd.func40 rfl Tryd.ntmps40 (lb rfl) ?_
 intro a F
 replace F : Fr 65 a [(0, .agg #[va_1]), (1, .agg #[vb_1])] := F
 refine wp_seq ?_
 refine wp_region_lit ?_
 refine wl_boxC (wn rfl) rfl rfl rfl F S rfl rfl ?_; clear F a S; rintro b1 a w F S
 refine wl_boxC (wn rfl) rfl rfl rfl F S rfl rfl ?_; clear F a S; rintro b2 a w F S
 refine wE (ev_assign rfl) F S rfl fun a F=>?_
 refine wpList_nil ?_
 refine then_n ?_
 refine wp_seq ?_
 refine wp_seq ?_
 refine wp_region_lit ?_
 refine wE (ev_fieldAddr' tu25 tf25_0 (z := 0) ts23 rfl ⟨_, rfl⟩ rfl) F S rfl fun a F=>?_
 refine wE (ev_load1 tu23 rfl rfl (box_ptr (cells := [va_1]) 1 rfl 0 rfl (lb rfl))) F S rfl fun a F=>?_
 refine wE (ev_lenSh ha_1 rfl tu23) F S rfl fun a F=>?_
 refine wE (ev_fieldAddr' tu25 tf25_0 (z := 0) ts23 rfl ⟨_, rfl⟩ rfl) F S rfl fun a F=>?_
 refine wE (ev_load1 tu23 rfl rfl (box_ptr (cells := [vb_1]) 0 rfl 0 rfl (lb rfl))) F S rfl fun a F=>?_
 refine wE (ev_lenSh hb_1 rfl tu23) F S rfl fun a F=>?_
 refine wE (ev_int rfl rfl (bo_neq _ _ _ _)) F S rfl fun a F=>?_
 refine wpList_nil ?_
 refine then_n ?_
 obtain ⟨hc1, hm⟩ | ⟨hc1, hm⟩ := ite_or hm
 ·refine wp_condT F rfl hc1 ?_
  refine wp_seq ?_
  refine wp_region_lit ?_
  refine wE (ev_assign rfl) F S rfl fun a F=>?_
  refine wpList_nil ?_
  refine then_n ?_
  refine wp_ret ?_
  refine then_r ?_
  obtain rfl := sinj hm
  refine post_r _ F rfl (ar_cons (resT rfl) ar_nil) ?_
  replace S : St g [] fr w := St.tail [] _ S
  exact ⟨_, rfl, g, (Le.refl _), S, rfl⟩
 ·refine wp_condF F rfl hc1 ?_
  refine wp_skip ?_
  refine then_n ?_
  refine wp_cut (fun a w => ∃ (g1 : Gh), Fr 65 a [] ∧ Le g g1 ∧ St g1 [] fr w ∧ changeforgeequal_Patch.j1 = some r) ?_ ?_
  ·refine wp_seq ?_
   refine wp_region_lit ?_
   refine wE (ev_assign rfl) F S rfl fun a F=>?_
   refine wpList_nil ?_
   refine then_n ?_
   refine wp_block ?_
   obtain ⟨r1, hr1, hm⟩ := bind_some hm
   have hmo1 := hm; clear hm
   refine wp_iter (σ := Int) (ρ := Bool ⊕ Unit) (m := fun s => changeforgeequal_Patch.l1 a_ b_ s) (I := fun x1 a w => ∃ (g2 : Gh), Fr 65 a [(5, .i6 x1), (3, bp b2 0), (2, bp b1 0)] ∧ Le g g2 ∧ St g2 [[bx b2 #[vb_1] 25], [bx b1 #[va_1] 25]] fr w) hr1 ?_ ?_
   ·exact ⟨g, F.sub ⟨rfl, rfl, rfl, trivial⟩, (Le.refl _), S⟩
   ·clear F S; rintro x1 a w x2 ⟨g2, F, l2, S⟩ hx1 hfin1
    have hm : changeforgeequal_Patch.l1 a_ b_ x1 = some x2 := hx1; clear hx1
    unfold changeforgeequal_Patch.l1 at hm
    refine wp_seq ?_
    refine wp_seq ?_
    refine wp_region_lit ?_
    refine wE (ev_move rfl) F S rfl fun a F=>?_
    refine wE (ev_fieldAddr' tu25 tf25_0 (z := 0) ts23 rfl ⟨_, rfl⟩ rfl) F S rfl fun a F=>?_
    refine wE (ev_load1 tu23 rfl rfl (box_ptr (cells := [va_1]) 1 rfl 0 rfl (lb rfl))) F S rfl fun a F=>?_
    refine wE (ev_lenSh ha_1 rfl tu23) F S rfl fun a F=>?_
    refine wE (ev_int rfl rfl (bo_lss _ _ _ _)) F S rfl fun a F=>?_
    refine wpList_nil ?_
    refine then_n ?_
    obtain ⟨hc2, hm⟩ | ⟨hc2, hm⟩ := ite_or hm
    ·refine wp_condT F rfl hc2 ?_
     refine wp_skip ?_
     refine then_n ?_
     refine wp_seq ?_
     refine wp_block ?_
     refine wp_seq ?_
     refine wp_quiet mo (by kernel_rfl) S ?_
     refine wq_ev (wn rfl) (ev_fieldAddr' tu25 tf25_0 (z := 0) ts23 rfl ⟨_, rfl⟩ rfl) F rfl rfl ?_; clear F a; intro a F
     refine wq_ev (wn rfl) (ev_load1 tu23 rfl rfl (box_ptr (cells := [va_1]) 1 rfl 0 rfl (lb rfl))) F rfl rfl ?_; clear F a; intro a F
     refine wq_ev (wn rfl) (ev_move rfl) F rfl rfl ?_; clear F a; intro a F
     obtain ⟨y1, hy1, hm⟩ := bind_some hm
     obtain ⟨cs1, hr2, hp1⟩ := elemS (ha_1.mono l2) hy1
     obtain ⟨v1, v2, rfl, h1, h2⟩ := rep_Hunk hr2
     refine wq_ev (wn rfl) (ev_idxS (ha_1.mono l2) hy1 tu23 ts69 rfl rfl) F rfl rfl ?_; clear F a; intro a F
     have hp2 := PtrC.field hp1 0 1 (lb rfl)
     have hp2 : PtrC g2 (addP (elemP va_1 x1 3) 0) [.i6 y1.At] := hp2
     refine wq_ev (wn rfl) (ev_fieldAddr' tu69 tf69_0 (z := 0) ts3 rfl hp1.ptr rfl) F rfl rfl ?_; clear F a; intro a F
     refine wq_ev (wn rfl) (ev_load1 tu3 rfl rfl (ptr_mono (cks := [[bx b2 #[vb_1] 25], [bx b1 #[va_1] 25]]) (fr := fr) hp2 (Le.refl _))) F rfl rfl ?_; clear F a; intro a F
     refine wq_ev (wn rfl) (ev_fieldAddr' tu25 tf25_0 (z := 0) ts23 rfl ⟨_, rfl⟩ rfl) F rfl rfl ?_; clear F a; intro a F
     refine wq_ev (wn rfl) (ev_load1 tu23 rfl rfl (box_ptr (cells := [vb_1]) 0 rfl 0 rfl (lb rfl))) F rfl rfl ?_; clear F a; intro a F
     refine wq_ev (wn rfl) (ev_move rfl) F rfl rfl ?_; clear F a; intro a F
     obtain ⟨y2, hy2, hm⟩ := bind_some hm
     obtain ⟨cs2, hr3, hp3⟩ := elemS (hb_1.mono l2) hy2
     obtain ⟨v3, v4, rfl, h3, h4⟩ := rep_Hunk hr3
     refine wq_ev (wn rfl) (ev_idxS (hb_1.mono l2) hy2 tu23 ts69 rfl rfl) F rfl rfl ?_; clear F a; intro a F
     have hp4 := PtrC.field hp3 0 1 (lb rfl)
     have hp4 : PtrC g2 (addP (elemP vb_1 x1 3) 0) [.i6 y2.At] := hp4
     refine wq_ev (wn rfl) (ev_fieldAddr' tu69 tf69_0 (z := 0) ts3 rfl hp3.ptr rfl) F rfl rfl ?_; clear F a; intro a F
     refine wq_ev (wn rfl) (ev_load1 tu3 rfl rfl (ptr_mono (cks := [[bx b2 #[vb_1] 25], [bx b1 #[va_1] 25]]) (fr := fr) hp4 (Le.refl _))) F rfl rfl ?_; clear F a; intro a F
     refine wq_ev (wn rfl) (ev_int rfl rfl (bo_neq _ _ _ _)) F rfl rfl ?_; clear F a; intro a F
     refine wq_ev (wn rfl) (ev_move rfl) F rfl rfl ?_; clear F a; intro a F
     obtain ⟨x3, hx2, hm⟩ := bind_some hm
     refine wq_cut 15 (fun a => Fr 65 a [(48, .bool x3), (5, .i6 x1), (3, bp b2 0), (2, bp b1 0)]) ?_ ?_
     ·clear hm; obtain ⟨hc3, hm⟩ | ⟨hc3, hm⟩ := ite_or hx2
      ·refine wq_skip rfl rfl rfl rfl (ne_ft hc3) F rfl rfl ?_; clear F a; intro a F
       refine wq_skip rfl rfl rfl rfl (ne_ft hc3) F rfl rfl ?_; clear F a; intro a F
       refine wq_skip rfl rfl rfl rfl (ne_ft hc3) F rfl rfl ?_; clear F a; intro a F
       refine wq_skip rfl rfl rfl rfl (ne_ft hc3) F rfl rfl ?_; clear F a; intro a F
       refine wq_skip rfl rfl rfl rfl (ne_ft hc3) F rfl rfl ?_; clear F a; intro a F
       refine wq_skip rfl rfl rfl rfl (ne_ft hc3) F rfl rfl ?_; clear F a; intro a F
       refine wq_skip rfl rfl rfl rfl (ne_ft hc3) F rfl rfl ?_; clear F a; intro a F
       refine wq_skip rfl rfl rfl rfl (ne_ft hc3) F rfl rfl ?_; clear F a; intro a F
       refine wq_skip rfl rfl rfl rfl (ne_ft hc3) F rfl rfl ?_; clear F a; intro a F
       refine wq_skip rfl rfl rfl rfl (ne_ft hc3) F rfl rfl ?_; clear F a; intro a F
       refine wq_skip rfl rfl rfl rfl (ne_ft hc3) F rfl rfl ?_; clear F a; intro a F
       refine wq_skip rfl rfl rfl rfl (ne_ft hc3) F rfl rfl ?_; clear F a; intro a F
       refine wq_skip rfl rfl rfl rfl (ne_ft hc3) F rfl rfl ?_; clear F a; intro a F
       refine wq_skip rfl rfl rfl rfl (ne_ft hc3) F rfl rfl ?_; clear F a; intro a F
       refine wq_ev (wn rfl) (ev_pickT rfl hc3 rfl) F rfl rfl ?_; clear F a; intro a F
       obtain rfl := sinj hm
       refine wq_nil ?_; exact F.sub ⟨rfl, rfl, rfl, rfl, trivial⟩
      ·refine wq_ev (wg F rfl rfl rfl rfl hc3) (ev_fieldAddr' tu25 tf25_0 (z := 0) ts23 rfl ⟨_, rfl⟩ rfl) F rfl rfl ?_; clear F a; intro a F
       refine wq_ev (wg F rfl rfl rfl rfl hc3) (ev_load1 tu23 rfl rfl (box_ptr (cells := [va_1]) 1 rfl 0 rfl (lb rfl))) F rfl rfl ?_; clear F a; intro a F
       refine wq_ev (wg F rfl rfl rfl rfl hc3) (ev_move rfl) F rfl rfl ?_; clear F a; intro a F
       obtain ⟨y3, hy3, hm⟩ := bind_some hm
       obtain ⟨cs3, hr4, hp5⟩ := elemS (ha_1.mono l2) hy3
       obtain ⟨v5, v6, rfl, h5, h6⟩ := rep_Hunk hr4
       refine wq_ev (wg F rfl rfl rfl rfl hc3) (ev_idxS (ha_1.mono l2) hy3 tu23 ts69 rfl rfl) F rfl rfl ?_; clear F a; intro a F
       have hp6 := PtrC.field hp5 1 1 (lb rfl)
       have hp6 : PtrC g2 (addP (elemP va_1 x1 3) 1) [v5] := hp6
       refine wq_ev (wg F rfl rfl rfl rfl hc3) (ev_fieldAddr' tu69 tf69_1 (z := 0) ts22 rfl hp5.ptr rfl) F rfl rfl ?_; clear F a; intro a F
       refine wq_ev (wg F rfl rfl rfl rfl hc3) (ev_load1 tu22 rfl rfl (ptr_mono (cks := [[bx b2 #[vb_1] 25], [bx b1 #[va_1] 25]]) (fr := fr) hp6 (Le.refl _))) F rfl rfl ?_; clear F a; intro a F
       refine wq_ev (wg F rfl rfl rfl rfl hc3) (ev_fieldAddr' tu25 tf25_0 (z := 0) ts23 rfl ⟨_, rfl⟩ rfl) F rfl rfl ?_; clear F a; intro a F
       refine wq_ev (wg F rfl rfl rfl rfl hc3) (ev_load1 tu23 rfl rfl (box_ptr (cells := [vb_1]) 0 rfl 0 rfl (lb rfl))) F rfl rfl ?_; clear F a; intro a F
       refine wq_ev (wg F rfl rfl rfl rfl hc3) (ev_move rfl) F rfl rfl ?_; clear F a; intro a F
       obtain ⟨y4, hy4, hm⟩ := bind_some hm
       obtain ⟨cs4, hr5, hp7⟩ := elemS (hb_1.mono l2) hy4
       obtain ⟨v7, v8, rfl, h7, h8⟩ := rep_Hunk hr5
       refine wq_ev (wg F rfl rfl rfl rfl hc3) (ev_idxS (hb_1.mono l2) hy4 tu23 ts69 rfl rfl) F rfl rfl ?_; clear F a; intro a F
       have hp8 := PtrC.field hp7 1 1 (lb rfl)
       have hp8 : PtrC g2 (addP (elemP vb_1 x1 3) 1) [v7] := hp8
       refine wq_ev (wg F rfl rfl rfl rfl hc3) (ev_fieldAddr' tu69 tf69_1 (z := 0) ts22 rfl hp7.ptr rfl) F rfl rfl ?_; clear F a; intro a F
       refine wq_ev (wg F rfl rfl rfl rfl hc3) (ev_load1 tu22 rfl rfl (ptr_mono (cks := [[bx b2 #[vb_1] 25], [bx b1 #[va_1] 25]]) (fr := fr) hp8 (Le.refl _))) F rfl rfl ?_; clear F a; intro a F
       obtain ⟨y5, hy5, hm⟩ := bind_some hm
       refine wq_call (wg F rfl rfl rfl rfl hc3) rfl (xs := [.tmp 39, .tmp 45]) (vs := [v5, v7]) (cap := []) F rfl rfl tc39 (v := .bool y5) (fun w S => (changeforgeequal_Strings_ok (g := g2) (fr := (fl [[bx b2 #[vb_1] 25], [bx b1 #[va_1] 25]] fr)) (w := w) y3.Old v5 h5 y4.Old v7 h7 S hy5).mono (by rintro en w' ⟨_, rfl, g2, l2, S2, rfl⟩; exact ⟨rfl, S2.weak l2⟩)) rfl rfl ?_; clear F a; intro a F
       refine wq_ev (wg F rfl rfl rfl rfl hc3) (ev_not rfl) F rfl rfl ?_; clear F a; intro a F
       refine wq_ev (wn rfl) (ev_pickF rfl hc3 rfl) F rfl rfl ?_; clear F a; intro a F
       obtain rfl := sinj hm
       refine wq_nil ?_; exact F.sub ⟨rfl, rfl, rfl, rfl, trivial⟩
     clear F; intro a F
     refine wq_ev (wn rfl) (ev_move rfl) F rfl rfl ?_; clear F a; intro a F
     obtain ⟨x4, hx3, hm⟩ := bind_some hm
     refine wq_cut 15 (fun a => Fr 65 a [(64, .bool x4), (5, .i6 x1), (3, bp b2 0), (2, bp b1 0)]) ?_ ?_
     ·clear hm; obtain ⟨hc4, hm⟩ | ⟨hc4, hm⟩ := ite_or hx3
      ·refine wq_skip rfl rfl rfl rfl (ne_ft hc4) F rfl rfl ?_; clear F a; intro a F
       refine wq_skip rfl rfl rfl rfl (ne_ft hc4) F rfl rfl ?_; clear F a; intro a F
       refine wq_skip rfl rfl rfl rfl (ne_ft hc4) F rfl rfl ?_; clear F a; intro a F
       refine wq_skip rfl rfl rfl rfl (ne_ft hc4) F rfl rfl ?_; clear F a; intro a F
       refine wq_skip rfl rfl rfl rfl (ne_ft hc4) F rfl rfl ?_; clear F a; intro a F
       refine wq_skip rfl rfl rfl rfl (ne_ft hc4) F rfl rfl ?_; clear F a; intro a F
       refine wq_skip rfl rfl rfl rfl (ne_ft hc4) F rfl rfl ?_; clear F a; intro a F
       refine wq_skip rfl rfl rfl rfl (ne_ft hc4) F rfl rfl ?_; clear F a; intro a F
       refine wq_skip rfl rfl rfl rfl (ne_ft hc4) F rfl rfl ?_; clear F a; intro a F
       refine wq_skip rfl rfl rfl rfl (ne_ft hc4) F rfl rfl ?_; clear F a; intro a F
       refine wq_skip rfl rfl rfl rfl (ne_ft hc4) F rfl rfl ?_; clear F a; intro a F
       refine wq_skip rfl rfl rfl rfl (ne_ft hc4) F rfl rfl ?_; clear F a; intro a F
       refine wq_skip rfl rfl rfl rfl (ne_ft hc4) F rfl rfl ?_; clear F a; intro a F
       refine wq_skip rfl rfl rfl rfl (ne_ft hc4) F rfl rfl ?_; clear F a; intro a F
       refine wq_ev (wn rfl) (ev_pickT rfl hc4 rfl) F rfl rfl ?_; clear F a; intro a F
       obtain rfl := sinj hm
       refine wq_nil ?_; exact F.sub ⟨rfl, rfl, rfl, rfl, trivial⟩
      ·refine wq_ev (wg F rfl rfl rfl rfl hc4) (ev_fieldAddr' tu25 tf25_0 (z := 0) ts23 rfl ⟨_, rfl⟩ rfl) F rfl rfl ?_; clear F a; intro a F
       refine wq_ev (wg F rfl rfl rfl rfl hc4) (ev_load1 tu23 rfl rfl (box_ptr (cells := [va_1]) 1 rfl 0 rfl (lb rfl))) F rfl rfl ?_; clear F a; intro a F
       refine wq_ev (wg F rfl rfl rfl rfl hc4) (ev_move rfl) F rfl rfl ?_; clear F a; intro a F
       obtain ⟨y6, hy6, hm⟩ := bind_some hm
       obtain ⟨cs5, hr6, hp9⟩ := elemS (ha_1.mono l2) hy6
       obtain ⟨v9, v10, rfl, h9, h10⟩ := rep_Hunk hr6
       refine wq_ev (wg F rfl rfl rfl rfl hc4) (ev_idxS (ha_1.mono l2) hy6 tu23 ts69 rfl rfl) F rfl rfl ?_; clear F a; intro a F
       have hp10 := PtrC.field hp9 2 1 (lb rfl)
       have hp10 : PtrC g2 (addP (elemP va_1 x1 3) 2) [v10] := hp10
       refine wq_ev (wg F rfl rfl rfl rfl hc4) (ev_fieldAddr' tu69 tf69_2 (z := 0) ts22 rfl hp9.ptr rfl) F rfl rfl ?_; clear F a; intro a F
       refine wq_ev (wg F rfl rfl rfl rfl hc4) (ev_load1 tu22 rfl rfl (ptr_mono (cks := [[bx b2 #[vb_1] 25], [bx b1 #[va_1] 25]]) (fr := fr) hp10 (Le.refl _))) F rfl rfl ?_; clear F a; intro a F
       refine wq_ev (wg F rfl rfl rfl rfl hc4) (ev_fieldAddr' tu25 tf25_0 (z := 0) ts23 rfl ⟨_, rfl⟩ rfl) F rfl rfl ?_; clear F a; intro a F
       refine wq_ev (wg F rfl rfl rfl rfl hc4) (ev_load1 tu23 rfl rfl (box_ptr (cells := [vb_1]) 0 rfl 0 rfl (lb rfl))) F rfl rfl ?_; clear F a; intro a F
       refine wq_ev (wg F rfl rfl rfl rfl hc4) (ev_move rfl) F rfl rfl ?_; clear F a; intro a F
       obtain ⟨y7, hy7, hm⟩ := bind_some hm
       obtain ⟨cs6, hr7, hp11⟩ := elemS (hb_1.mono l2) hy7
       obtain ⟨v11, v12, rfl, h11, h12⟩ := rep_Hunk hr7
       refine wq_ev (wg F rfl rfl rfl rfl hc4) (ev_idxS (hb_1.mono l2) hy7 tu23 ts69 rfl rfl) F rfl rfl ?_; clear F a; intro a F
       have hp12 := PtrC.field hp11 2 1 (lb rfl)
       have hp12 : PtrC g2 (addP (elemP vb_1 x1 3) 2) [v12] := hp12
       refine wq_ev (wg F rfl rfl rfl rfl hc4) (ev_fieldAddr' tu69 tf69_2 (z := 0) ts22 rfl hp11.ptr rfl) F rfl rfl ?_; clear F a; intro a F
       refine wq_ev (wg F rfl rfl rfl rfl hc4) (ev_load1 tu22 rfl rfl (ptr_mono (cks := [[bx b2 #[vb_1] 25], [bx b1 #[va_1] 25]]) (fr := fr) hp12 (Le.refl _))) F rfl rfl ?_; clear F a; intro a F
       obtain ⟨y8, hy8, hm⟩ := bind_some hm
       refine wq_call (wg F rfl rfl rfl rfl hc4) rfl (xs := [.tmp 55, .tmp 61]) (vs := [v10, v12]) (cap := []) F rfl rfl tc39 (v := .bool y8) (fun w S => (changeforgeequal_Strings_ok (g := g2) (fr := (fl [[bx b2 #[vb_1] 25], [bx b1 #[va_1] 25]] fr)) (w := w) y6.New v10 h10 y7.New v12 h12 S hy8).mono (by rintro en w' ⟨_, rfl, g2, l2, S2, rfl⟩; exact ⟨rfl, S2.weak l2⟩)) rfl rfl ?_; clear F a; intro a F
       refine wq_ev (wg F rfl rfl rfl rfl hc4) (ev_not rfl) F rfl rfl ?_; clear F a; intro a F
       refine wq_ev (wn rfl) (ev_pickF rfl hc4 rfl) F rfl rfl ?_; clear F a; intro a F
       obtain rfl := sinj hm
       refine wq_nil ?_; exact F.sub ⟨rfl, rfl, rfl, rfl, trivial⟩
     clear F; intro a F
     refine wq_nil ?_; clear S; intro w S
     refine then_n ?_
     obtain ⟨hc5, hm⟩ | ⟨hc5, hm⟩ := ite_or hm
     ·refine wp_condT F rfl hc5 ?_
      refine wp_seq ?_
      refine wp_region_lit ?_
      refine wE (ev_assign rfl) F S rfl fun a F=>?_
      refine wpList_nil ?_
      refine then_n ?_
      refine wp_ret ?_
      refine inb_r ?_
      refine then_r ?_
      refine then_r ?_
      refine inb_r ?_
      refine then_r ?_
      obtain rfl := sinj hm
      obtain rfl := hfin1 _ rfl
      clear hm
      have hm : (some false : Option Bool) = some _ := hmo1
      obtain rfl := sinj hm
      refine post_r _ F rfl (ar_cons (resT rfl) ar_nil) ?_
      replace S : St g2 [] fr w := St.tail [] _ S
      exact ⟨_, rfl, g2, l2, S, rfl⟩
     ·refine wp_condF F rfl hc5 ?_
      refine wp_skip ?_
      refine inb_n ?_
      refine then_n ?_
      refine wp_region_lit ?_
      refine wE (ev_move rfl) F S rfl fun a F=>?_
      obtain ⟨z1, hz1, hm⟩ := bind_some hm
      refine wE (ev_int rfl rfl (bo_add hz1)) F S rfl fun a F=>?_
      refine wE (ev_assign rfl) F S rfl fun a F=>?_
      refine wpList_nil ?_
      refine then_n ?_
      obtain rfl := sinj hm
      refine ⟨_, rfl, ?_⟩
      exact ⟨g2, F.sub ⟨rfl, rfl, rfl, trivial⟩, l2, S⟩
    ·refine wp_condF F rfl hc2 ?_
     refine wp_exit ?_
     refine then_e ?_
     refine then_e ?_
     refine inb_x ?_
     refine then_n ?_
     obtain rfl := sinj hm
     obtain rfl := hfin1 _ rfl
     clear hm
     have hm : (changeforgeequal_Patch.j1 : Option Bool) = some _ := hmo1
     replace S : St g2 [] fr w := St.tail [] _ S
     exact ⟨g2, F.sub trivial, l2, S, hm⟩
  ·clear F S hm; rintro a w ⟨g1, F, l1, S, hm⟩
   refine wp_seq ?_
   refine wp_region_lit ?_
   refine wE (ev_assign rfl) F S rfl fun a F=>?_
   refine wpList_nil ?_
   refine then_n ?_
   refine wp_ret ?_
   obtain rfl := sinj hm
   refine post_r _ F rfl (ar_cons (resT rfl) ar_nil) ?_
   exact ⟨_, rfl, g1, l1, S, rfl⟩

theorem changeforgeequal_Change_ok {g : Gh} {fr : Hl} {w : World} {r : Bool} (a_ : TreeChange) (va_1 : Value) (ha_1 : RepSl g a_.Lines va_1) (va_2 : Value) (ha_2 : RepSl g a_.Patch.Hunks va_2) (b_ : TreeChange) (vb_1 : Value) (hb_1 : RepSl g b_.Lines vb_1) (vb_2 : Value) (hb_2 : RepSl g b_.Patch.Hunks vb_2) (S : St g [] fr w) (hm : changeforgeequal_Change a_ b_ = some r) :
  Calls Tryd.prog 14 [.agg #[.i6 a_.Kind, .string a_.Path, .string a_.To, va_1, va_2], .agg #[.i6 b_.Kind, .string b_.Path, .string b_.To, vb_1, vb_2]].toArray w (fun en w' => ∃ v, en = .returned v ∧ ∃ (g' : Gh), Le g g' ∧ St g' [] fr w' ∧ .bool r = v) := by
 unfold changeforgeequal_Change at hm
 refine calls_enter (fn := Tryd.f14) Tryd.func14 rfl Tryd.ntmps14 (lb rfl) ?_
 intro a F
 replace F : Fr 38 a [(0, .agg #[.i6 a_.Kind, .string a_.Path, .string a_.To, va_1, va_2]), (1, .agg #[.i6 b_.Kind, .string b_.Path, .string b_.To, vb_1, vb_2])] := F
 refine wp_seq ?_
 refine wp_region_lit ?_
 refine wl_boxC (wn rfl) rfl rfl rfl F S rfl rfl ?_; clear F a S; rintro b1 a w F S
 refine wl_boxC (wn rfl) rfl rfl rfl F S rfl rfl ?_; clear F a S; rintro b2 a w F S
 refine wE (ev_assign rfl) F S rfl fun a F=>?_
 refine wpList_nil ?_
 refine then_n ?_
 refine wp_seq ?_
 refine wp_region_lit ?_
 refine wE (ev_fieldAddr' tu27 tf27_0 (z := 0) ts3 rfl ⟨_, rfl⟩ rfl) F S rfl fun a F=>?_
 refine wE (ev_load1 tu3 rfl rfl (box_ptr (cells := [.i6 a_.Kind]) 1 rfl 0 rfl (lb rfl))) F S rfl fun a F=>?_
 refine wE (ev_fieldAddr' tu27 tf27_0 (z := 0) ts3 rfl ⟨_, rfl⟩ rfl) F S rfl fun a F=>?_
 refine wE (ev_load1 tu3 rfl rfl (box_ptr (cells := [.i6 b_.Kind]) 0 rfl 0 rfl (lb rfl))) F S rfl fun a F=>?_
 refine wE (ev_int rfl rfl (bo_eql _ _ _ _)) F S rfl fun a F=>?_
 refine wE (ev_move rfl) F S rfl fun a F=>?_
 obtain ⟨x1, hx1, hm⟩ := bind_some hm
 refine wl_cut 6 (fun a w' => w = w' ∧ Fr 38 a [(16, .bool x1), (4, .bool false), (3, bp b2 0), (2, bp b1 0)]) ?_ ?_
 ·clear hm; obtain ⟨hc1, hm⟩ | ⟨hc1, hm⟩ := ite_or hx1
  ·refine wl_ev (wg F rfl rfl rfl rfl hc1) (ev_fieldAddr' tu27 tf27_1 (z := 0) ts9 rfl ⟨_, rfl⟩ rfl) F S rfl rfl ?_; clear F a; intro a F
   refine wl_ev (wg F rfl rfl rfl rfl hc1) (ev_load1 tu9 rfl rfl (box_ptr (cells := [.string a_.Path]) 1 rfl 1 rfl (lb rfl))) F S rfl rfl ?_; clear F a; intro a F
   refine wl_ev (wg F rfl rfl rfl rfl hc1) (ev_fieldAddr' tu27 tf27_1 (z := 0) ts9 rfl ⟨_, rfl⟩ rfl) F S rfl rfl ?_; clear F a; intro a F
   refine wl_ev (wg F rfl rfl rfl rfl hc1) (ev_load1 tu9 rfl rfl (box_ptr (cells := [.string b_.Path]) 0 rfl 1 rfl (lb rfl))) F S rfl rfl ?_; clear F a; intro a F
   refine wl_ev (wg F rfl rfl rfl rfl hc1) (ev_str rfl rfl (bs_eql _ _ _)) F S rfl rfl ?_; clear F a; intro a F
   refine wE (ev_pickT rfl hc1 rfl) F S rfl fun a F=>?_
   obtain rfl := sinj hm
   refine wpList_nil (then_n ?_); exact ⟨rfl, F.sub ⟨rfl, rfl, rfl, rfl, trivial⟩⟩
  ·refine wl_skip rfl rfl rfl rfl (ne_tf hc1) F rfl rfl ?_; clear F a; intro a F
   refine wl_skip rfl rfl rfl rfl (ne_tf hc1) F rfl rfl ?_; clear F a; intro a F
   refine wl_skip rfl rfl rfl rfl (ne_tf hc1) F rfl rfl ?_; clear F a; intro a F
   refine wl_skip rfl rfl rfl rfl (ne_tf hc1) F rfl rfl ?_; clear F a; intro a F
   refine wl_skip rfl rfl rfl rfl (ne_tf hc1) F rfl rfl ?_; clear F a; intro a F
   refine wE (ev_pickF rfl hc1 rfl) F S rfl fun a F=>?_
   obtain rfl := sinj hm
   refine wpList_nil (then_n ?_); exact ⟨rfl, F.sub ⟨rfl, rfl, rfl, rfl, trivial⟩⟩
 clear F; rintro a w' ⟨rfl, F⟩
 refine wE (ev_move rfl) F S rfl fun a F=>?_
 obtain ⟨x2, hx2, hm⟩ := bind_some hm
 refine wl_cut 6 (fun a w' => w = w' ∧ Fr 38 a [(23, .bool x2), (4, .bool false), (3, bp b2 0), (2, bp b1 0)]) ?_ ?_
 ·clear hm; obtain ⟨hc2, hm⟩ | ⟨hc2, hm⟩ := ite_or hx2
  ·refine wl_ev (wg F rfl rfl rfl rfl hc2) (ev_fieldAddr' tu27 tf27_2 (z := 0) ts9 rfl ⟨_, rfl⟩ rfl) F S rfl rfl ?_; clear F a; intro a F
   refine wl_ev (wg F rfl rfl rfl rfl hc2) (ev_load1 tu9 rfl rfl (box_ptr (cells := [.string a_.To]) 1 rfl 2 rfl (lb rfl))) F S rfl rfl ?_; clear F a; intro a F
   refine wl_ev (wg F rfl rfl rfl rfl hc2) (ev_fieldAddr' tu27 tf27_2 (z := 0) ts9 rfl ⟨_, rfl⟩ rfl) F S rfl rfl ?_; clear F a; intro a F
   refine wl_ev (wg F rfl rfl rfl rfl hc2) (ev_load1 tu9 rfl rfl (box_ptr (cells := [.string b_.To]) 0 rfl 2 rfl (lb rfl))) F S rfl rfl ?_; clear F a; intro a F
   refine wl_ev (wg F rfl rfl rfl rfl hc2) (ev_str rfl rfl (bs_eql _ _ _)) F S rfl rfl ?_; clear F a; intro a F
   refine wE (ev_pickT rfl hc2 rfl) F S rfl fun a F=>?_
   obtain rfl := sinj hm
   refine wpList_nil (then_n ?_); exact ⟨rfl, F.sub ⟨rfl, rfl, rfl, rfl, trivial⟩⟩
  ·refine wl_skip rfl rfl rfl rfl (ne_tf hc2) F rfl rfl ?_; clear F a; intro a F
   refine wl_skip rfl rfl rfl rfl (ne_tf hc2) F rfl rfl ?_; clear F a; intro a F
   refine wl_skip rfl rfl rfl rfl (ne_tf hc2) F rfl rfl ?_; clear F a; intro a F
   refine wl_skip rfl rfl rfl rfl (ne_tf hc2) F rfl rfl ?_; clear F a; intro a F
   refine wl_skip rfl rfl rfl rfl (ne_tf hc2) F rfl rfl ?_; clear F a; intro a F
   refine wE (ev_pickF rfl hc2 rfl) F S rfl fun a F=>?_
   obtain rfl := sinj hm
   refine wpList_nil (then_n ?_); exact ⟨rfl, F.sub ⟨rfl, rfl, rfl, rfl, trivial⟩⟩
 clear F; rintro a w' ⟨rfl, F⟩
 refine wE (ev_move rfl) F S rfl fun a F=>?_
 obtain ⟨x3, hx3, hm⟩ := bind_some hm
 refine wl_cut 6 (fun a w => ∃ g1, Fr 38 a [(30, .bool x3), (4, .bool false), (3, bp b2 0), (2, bp b1 0)] ∧ Le g g1 ∧ St g1 [[bx b2 #[.i6 b_.Kind, .string b_.Path, .string b_.To, vb_1, vb_2] 27], [bx b1 #[.i6 a_.Kind, .string a_.Path, .string a_.To, va_1, va_2] 27]] fr w) ?_ ?_
 ·clear hm; obtain ⟨hc3, hm⟩ | ⟨hc3, hm⟩ := ite_or hx3
  ·refine wl_ev (wg F rfl rfl rfl rfl hc3) (ev_fieldAddr' tu27 tf27_3 (z := 0) ts22 rfl ⟨_, rfl⟩ rfl) F S rfl rfl ?_; clear F a; intro a F
   refine wl_ev (wg F rfl rfl rfl rfl hc3) (ev_load1 tu22 rfl rfl (box_ptr (cells := [va_1]) 1 rfl 3 rfl (lb rfl))) F S rfl rfl ?_; clear F a; intro a F
   refine wl_ev (wg F rfl rfl rfl rfl hc3) (ev_fieldAddr' tu27 tf27_3 (z := 0) ts22 rfl ⟨_, rfl⟩ rfl) F S rfl rfl ?_; clear F a; intro a F
   refine wl_ev (wg F rfl rfl rfl rfl hc3) (ev_load1 tu22 rfl rfl (box_ptr (cells := [vb_1]) 0 rfl 3 rfl (lb rfl))) F S rfl rfl ?_; clear F a; intro a F
   obtain ⟨y1, hy1, hm⟩ := bind_some hm
   refine wl_call0 (wg F rfl rfl rfl rfl hc3) rfl F rfl (changeforgeequal_Strings_ok (fr := (fl [[bx b2 #[.i6 b_.Kind, .string b_.Path, .string b_.To, vb_1, vb_2] 27], [bx b1 #[.i6 a_.Kind, .string a_.Path, .string a_.To, va_1, va_2] 27]] fr)) a_.Lines va_1 ha_1 b_.Lines vb_1 hb_1 S hy1) rfl tc39 rfl rfl ?_; clear F a S
   rintro _ a w ⟨g2, l2, S, rfl⟩ F; replace S : St g2 [[bx b2 #[.i6 b_.Kind, .string b_.Path, .string b_.To, vb_1, vb_2] 27], [bx b1 #[.i6 a_.Kind, .string a_.Path, .string a_.To, va_1, va_2] 27]] fr w := S
   refine wE (ev_pickT rfl hc3 rfl) F S rfl fun a F=>?_
   obtain rfl := sinj hm
   refine wpList_nil (then_n ?_); exact ⟨g2, F.sub ⟨rfl, rfl, rfl, rfl, trivial⟩, l2, S⟩
  ·refine wl_skip rfl rfl rfl rfl (ne_tf hc3) F rfl rfl ?_; clear F a; intro a F
   refine wl_skip rfl rfl rfl rfl (ne_tf hc3) F rfl rfl ?_; clear F a; intro a F
   refine wl_skip rfl rfl rfl rfl (ne_tf hc3) F rfl rfl ?_; clear F a; intro a F
   refine wl_skip rfl rfl rfl rfl (ne_tf hc3) F rfl rfl ?_; clear F a; intro a F
   refine wl_skip rfl rfl rfl rfl (ne_tf hc3) F rfl rfl ?_; clear F a; intro a F
   refine wE (ev_pickF rfl hc3 rfl) F S rfl fun a F=>?_
   obtain rfl := sinj hm
   refine wpList_nil (then_n ?_); exact ⟨g, F.sub ⟨rfl, rfl, rfl, rfl, trivial⟩, (Le.refl _), S⟩
 clear F S; rintro a w ⟨g1, F, l1, S⟩
 refine wE (ev_move rfl) F S rfl fun a F=>?_
 obtain ⟨x4, hx4, hm⟩ := bind_some hm
 refine wl_cut 6 (fun a w => ∃ g3, Fr 38 a [(37, .bool x4), (4, .bool false)] ∧ Le g1 g3 ∧ St g3 [[bx b2 #[.i6 b_.Kind, .string b_.Path, .string b_.To, vb_1, vb_2] 27], [bx b1 #[.i6 a_.Kind, .string a_.Path, .string a_.To, va_1, va_2] 27]] fr w) ?_ ?_
 ·clear hm; obtain ⟨hc4, hm⟩ | ⟨hc4, hm⟩ := ite_or hx4
  ·refine wl_ev (wg F rfl rfl rfl rfl hc4) (ev_fieldAddr' tu27 tf27_4 (z := 0) ts25 rfl ⟨_, rfl⟩ rfl) F S rfl rfl ?_; clear F a; intro a F
   refine wl_ev (wg F rfl rfl rfl rfl hc4) (ev_loadA tu25 rfl (cs := [va_2]) ts25 rfl (box_ptr (cells := [va_2]) 1 rfl 4 rfl (lb rfl))) F S rfl rfl ?_; clear F a; intro a F
   refine wl_ev (wg F rfl rfl rfl rfl hc4) (ev_fieldAddr' tu27 tf27_4 (z := 0) ts25 rfl ⟨_, rfl⟩ rfl) F S rfl rfl ?_; clear F a; intro a F
   refine wl_ev (wg F rfl rfl rfl rfl hc4) (ev_loadA tu25 rfl (cs := [vb_2]) ts25 rfl (box_ptr (cells := [vb_2]) 0 rfl 4 rfl (lb rfl))) F S rfl rfl ?_; clear F a; intro a F
   obtain ⟨y2, hy2, hm⟩ := bind_some hm
   refine wl_call0 (wg F rfl rfl rfl rfl hc4) rfl F rfl (changeforgeequal_Patch_ok (fr := (fl [[bx b2 #[.i6 b_.Kind, .string b_.Path, .string b_.To, vb_1, vb_2] 27], [bx b1 #[.i6 a_.Kind, .string a_.Path, .string a_.To, va_1, va_2] 27]] fr)) a_.Patch va_2 (ha_2.mono l1) b_.Patch vb_2 (hb_2.mono l1) S hy2) rfl tc40 rfl rfl ?_; clear F a S
   rintro _ a w ⟨g4, l4, S, rfl⟩ F; replace S : St g4 [[bx b2 #[.i6 b_.Kind, .string b_.Path, .string b_.To, vb_1, vb_2] 27], [bx b1 #[.i6 a_.Kind, .string a_.Path, .string a_.To, va_1, va_2] 27]] fr w := S
   refine wE (ev_pickT rfl hc4 rfl) F S rfl fun a F=>?_
   obtain rfl := sinj hm
   refine wpList_nil (then_n ?_); exact ⟨g4, F.sub ⟨rfl, rfl, trivial⟩, l4, S⟩
  ·refine wl_skip rfl rfl rfl rfl (ne_tf hc4) F rfl rfl ?_; clear F a; intro a F
   refine wl_skip rfl rfl rfl rfl (ne_tf hc4) F rfl rfl ?_; clear F a; intro a F
   refine wl_skip rfl rfl rfl rfl (ne_tf hc4) F rfl rfl ?_; clear F a; intro a F
   refine wl_skip rfl rfl rfl rfl (ne_tf hc4) F rfl rfl ?_; clear F a; intro a F
   refine wl_skip rfl rfl rfl rfl (ne_tf hc4) F rfl rfl ?_; clear F a; intro a F
   refine wE (ev_pickF rfl hc4 rfl) F S rfl fun a F=>?_
   obtain rfl := sinj hm
   refine wpList_nil (then_n ?_); exact ⟨g1, F.sub ⟨rfl, rfl, trivial⟩, (Le.refl _), S⟩
 clear F S; rintro a w ⟨g3, F, l3, S⟩
 refine wE (ev_assign rfl) F S rfl fun a F=>?_
 refine wpList_nil ?_
 refine then_n ?_
 refine wp_ret ?_
 obtain rfl := sinj hm
 refine post_r _ F rfl (ar_cons (resT rfl) ar_nil) ?_
 replace S : St g3 [] fr w := St.tail [] _ S
 exact ⟨_, rfl, g3, (l1.trans l3), S, rfl⟩
end Go.Dc
