/- Walks: each function comes to what its model says. -/
import Derived.Test.YthpkobkngplbbaaDoorDcTab
import Derived.Test.YthpkobkngplbbaaDoorDcM
import Derived.Test.YthpkobkngplbbaaDoorDcW4
import Derived.Test.YthpkobkngplbbaaDoorDcW5
import Derived.Test.YthpkobkngplbbaaDoorDcW6
namespace Go.Dc
open Go Go.Proofs
set_option maxRecDepth 100000
set_option maxHeartbeats 4000000
set_option linter.unusedVariables false
theorem slices_Insert_48_ok {g : Gh} {fr : Hl} {w : World} {r : List File} (s_ : List File) (vs_1 : Value) (c_1 : Hl) (os_1 : OwnS g s_ vs_1 c_1) (i_ : Int) (v_ : List File) (vv_1 : Value) (c_2 : Hl) (ov_1 : OwnS g v_ vv_1 c_2) (S : St g [c_1, c_2] fr w) (hm : ins? 40 s_ i_ v_ = some r) :
 Calls Tryd.prog 113 [vs_1, .i6 i_, vv_1].toArray w (fun en w' => ∃ v, en = .returned v ∧ ∃ (g' : Gh) (v1 : Value) (c1 : Hl), Le g g' ∧ St g' [c1] fr w' ∧ OwnS g' r v1 c1 ∧ v1 = v) := by
 obtain ⟨p, rfl, hp, hv1, hb, rfl⟩ := ins?_some hm
 obtain ⟨b2, cap2, arr2, t2, rfl, rfl, hcap2, hsz2, ha2⟩ := ov_1.open (by intro h; subst h; simp at hv1)
 refine calls_enter (fn := Tryd.f113) Tryd.func113 rfl Tryd.ntmps113 (lb rfl) ?_
 intro a F
 replace F : Fr 95 a [(0, vs_1), (1, .i6 p), (2, rs b2 0 v_.length cap2)] := F
 refine wp_seq ?_
 refine wp_region_lit ?_
 refine wE (ev_assign rfl) F S rfl fun a F=>?_
 refine wpList_nil ?_
 refine then_n ?_
 refine wp_seq ?_
 refine wp_region_lit ?_
 refine wE (ev_move rfl) F S rfl fun a F=>?_
 refine wE (ev_move rfl) F S rfl fun a F=>?_
 obtain ⟨a0, cap0, hv0, hc0⟩ := os_1.len
 obtain ⟨v3, ev3⟩ := ev_sliceAny F (P := Tryd.prog) (C := St g [c_1, [(b2, .cells arr2 t2 (0, 0))]] fr) (x := .tmp 10) (lo := some (.tmp 11)) (hi := Option.none) (p := (p : Int)) (q := (s_.length : Int)) tu39 ts48 rfl hv0 ⟨_, rfl⟩ rfl (by omega) (by omega) (by omega)
 refine wE ev3 F S rfl fun a F=>?_
 refine wpList_nil ?_
 refine then_n ?_
 refine wp_seq ?_
 refine wp_region_lit ?_
 refine wE (ev_move rfl) F S rfl fun a F=>?_
 refine wE (ev_len rfl tu39) F S rfl fun a F=>?_
 refine wE (ev_assign rfl) F S rfl fun a F=>?_
 refine wpList_nil ?_
 refine then_n ?_
 refine wp_seq ?_
 refine wp_seq ?_
 refine wp_region_lit ?_
 refine wE (ev_move rfl) F S rfl fun a F=>?_
 refine wE (ev_int rfl rfl (bo_eql _ _ _ _)) F S rfl fun a F=>?_
 refine wpList_nil ?_
 refine then_n ?_
 refine wp_condF F rfl (decide_eq_false (by omega)) ?_
 refine wp_skip ?_
 refine then_n ?_
 refine wp_seq ?_
 refine wp_region_lit ?_
 refine wE (ev_move rfl) F S rfl fun a F=>?_
 refine wE (ev_lenOw os_1 rfl tu39) F S rfl fun a F=>?_
 refine wE (ev_assign rfl) F S rfl fun a F=>?_
 refine wpList_nil ?_
 refine then_n ?_
 refine wp_seq ?_
 refine wp_seq ?_
 refine wp_region_lit ?_
 refine wE (ev_move rfl) F S rfl fun a F=>?_
 refine wE (ev_move rfl) F S rfl fun a F=>?_
 refine wE (ev_int rfl rfl (bo_eql _ _ _ _)) F S rfl fun a F=>?_
 refine wpList_nil ?_
 refine then_n ?_
 by_cases hc1 : (p : Int) = (s_.length : Nat)
 ·refine wp_condT F rfl (decide_eq_true hc1) ?_
  refine wp_seq ?_
  refine wp_region_lit ?_
  refine wE (ev_move rfl) F S rfl fun a F=>?_
  refine wE (ev_move rfl) F S rfl fun a F=>?_
  obtain ⟨cs1, hk1, hr1⟩ := ov_1.reads
  have happ : app? 40 s_ v_ = some (s_ ++ v_) := by unfold app?; rw [if_pos (by rw [hv1]; exact hb)]
  refine wl_append (wn rfl) rfl tu39 tu39 te48 (by decide) (by decide) F S rfl rfl (k := 0) rfl os_1 hk1 rfl (hr1 _ _ _ 1 rfl S) happ rfl rfl ?_; clear F a S
  rintro v2 c2 a w h2 S F
  replace S : St g [c2, [(b2, .cells arr2 t2 (0, 0))]] fr w := S
  refine wE (ev_assign rfl) F S rfl fun a F=>?_
  refine wpList_nil ?_
  refine then_n ?_
  refine wp_ret ?_
  refine then_r ?_
  replace S : St g [c2] fr w := St.tail [c2] _ S
  refine post_r _ F rfl (ar_cons (resT rfl) ar_nil) ?_
  have hpl : p = s_.length := by omega
  exact ⟨_, rfl, g, v2, c2, Le.refl _, S, by rw [hpl, List.take_length, List.drop_length, List.append_nil]; exact h2, rfl⟩
 refine wp_condF F rfl (decide_eq_false hc1) ?_
 refine wp_skip ?_
 refine then_n ?_
 have hlt : p < s_.length := by omega
 obtain ⟨b, cap, arr, t, rfl, rfl, hcap, hsz, ha⟩ := os_1.open (by intro h; subst h; simp at hlt)
 refine wp_seq ?_
 refine wp_seq ?_
 refine wp_region_lit ?_
 refine wE (ev_move rfl) F S rfl fun a F=>?_
 refine wE (ev_move rfl) F S rfl fun a F=>?_
 refine wE (ev_int rfl rfl (bo_add (ckI (by omega) (by omega)))) F S rfl fun a F=>?_
 refine wE (ev_move rfl) F S rfl fun a F=>?_
 refine wE (ev_capR rfl tu39) F S rfl fun a F=>?_
 refine wE (ev_int rfl rfl (bo_gtr _ _ _ _)) F S rfl fun a F=>?_
 refine wpList_nil ?_
 refine then_n ?_
 by_cases hc2 : ((s_.length : Nat) : Int) + (v_.length : Nat) > (cap : Int)
 ·refine wp_condT F rfl (decide_eq_true hc2) ?_
  refine wp_seq ?_
  refine wp_region_lit ?_
  refine wE (ev_move rfl) F S rfl fun a F=>?_
  refine wE (ev_move rfl) F S rfl fun a F=>?_
  refine wE (ev_sliceR0 (q := p) tu39 ts48 rfl rfl ⟨_, rfl⟩ (by omega) (by omega)) F S rfl fun a F=>?_
  refine wE (ev_move rfl) F S rfl fun a F=>?_
  refine wE (ev_move rfl) F S rfl fun a F=>?_
  refine wE (ev_int rfl rfl (bo_add (ckI (by omega) (by omega)))) F S rfl fun a F=>?_
  refine wE (ev_move rfl) F S rfl fun a F=>?_
  refine wE (ev_int rfl rfl (bo_sub (ckI (by omega) (by omega)))) F S rfl fun a F=>?_
  obtain ⟨cs1, hcs1, hsrc1⟩ := ha.srcP S (k := 0) rfl p cap hp
  have htl : (s_.take p).length = p := by simp; omega
  have hap : app? 40 (s_.take p) (List.replicate (((s_.length : Nat) : Int) + (v_.length : Nat) - p).toNat (({ Path := ByteArray.empty, Lines := [] } : File) : File)) = some (s_.take p ++ List.replicate (((s_.length : Nat) : Int) + (v_.length : Nat) - p).toNat (({ Path := ByteArray.empty, Lines := [] } : File) : File)) := by
   unfold app?; rw [if_pos ?_]
   rw [htl, List.length_replicate, show p + (((s_.length : Nat) : Int) + (v_.length : Nat) - p).toNat = s_.length + 1 by omega]; exact hb
  refine wl_appendZ (wn rfl) rfl tu39 tu3 te48 zr48 (by decide) (by decide) F S rfl (base := some ⟨b, 0, Option.none⟩) (cap := cap) (l := s_.take p) (by rw [htl]; rfl) rfl hcs1 hsrc1 (by omega) (by rw [htl]; omega) hap rfl rfl ?_; clear F a S hsrc1
  intro v4 c4 a w h4 S F
  refine wE (ev_assign rfl) F S rfl fun a F=>?_
  refine wpList_nil ?_
  refine then_n ?_
  have hj : (((s_.length : Nat) : Int) + (v_.length : Nat) - p).toNat = s_.length + 1 - p := by omega
  rw [hj] at h4
  have hl4 : (s_.take p ++ List.replicate (s_.length + 1 - p) (({ Path := ByteArray.empty, Lines := [] } : File) : File)).length = s_.length + 1 := by simp; omega
  obtain ⟨b4, cap4, arr4, t4, rfl, rfl, hcap4, hsz4, ha4⟩ := h4.open (by intro h; rw [h] at hl4; simp at hl4)
  rw [hl4] at hcap4
  refine wp_seq ?_
  refine wp_region_lit ?_
  refine wE (ev_move rfl) F S rfl fun a F=>?_
  refine wE (ev_move rfl) F S rfl fun a F=>?_
  refine wE (ev_sliceRb (p := (p : Nat)) tu39 ts48 rfl ⟨_, rfl⟩ rfl (by omega) (by omega) (by omega) (by omega)) F S rfl fun a F=>?_
  refine wE (ev_move rfl) F S rfl fun a F=>?_
  obtain ⟨cs2, hcs2, hsrc2⟩ := ov_1.srcOf S (k := 2) rfl
  refine wl_copyR (wn rfl) rfl tu39 ts48 F S (p := p) (b := b4) rfl rfl (k := 0) rfl ha4 (by omega) hcs2 hsrc2 (by omega) (by rw [hsz4]; exact Nat.mul_le_mul_right _ (by omega)) rfl rfl ?_; clear F S hsrc2 ha4
  intro arr5 a w hs5 ha5 S F
  refine wpList_nil ?_
  refine then_n ?_
  have hl5 : ((s_.take p ++ List.replicate (s_.length + 1 - p) (({ Path := ByteArray.empty, Lines := [] } : File) : File)).take p ++ v_ ++ (s_.take p ++ List.replicate (s_.length + 1 - p) (({ Path := ByteArray.empty, Lines := [] } : File) : File)).drop (p + v_.length)).length = s_.length + 1 := by simp; omega
  refine wp_seq ?_
  refine wp_dv [] mo S ?_; clear S; intro ok1 w S
  refine dv_et ok1 0 rfl (ev_move rfl) F rfl fun a F=>?_
  refine dv_et ok1 1 rfl (ev_move rfl) F rfl fun a F=>?_
  refine dv_et ok1 2 rfl (ev_move rfl) F rfl fun a F=>?_
  refine dv_et ok1 3 rfl (ev_int rfl rfl (bo_add (ckI (by omega) (by omega)))) F rfl fun a F=>?_
  refine dv_et ok1 4 rfl (ev_sliceRb (p := (p + v_.length : Nat)) tu39 ts48 rfl ⟨_, rfl⟩ rfl (by omega) (by omega) (by omega) (by omega)) F rfl fun a F=>?_
  refine dv_et ok1 5 rfl (ev_move rfl) F rfl fun a F=>?_
  refine dv_et ok1 6 rfl (ev_move rfl) F rfl fun a F=>?_
  refine dv_et ok1 7 rfl (ev_sliceRb (p := (p : Nat)) tu39 ts48 rfl ⟨_, rfl⟩ rfl (by omega) (by omega) (by omega) (by omega)) F rfl fun a F=>?_
  obtain ⟨cs3, hcs3, hsrc3⟩ := ha.srcD S (k := 1) rfl p (s_.length - p) (cap - p) hp
  have hdl : (s_.drop p).length = s_.length - p := List.length_drop
  refine dv_op ok1 8 rfl [] ?_
  refine wl_copyR (wn rfl) rfl tu39 ts48 F S (p := p + v_.length) (b := b4) rfl rfl (k := 0) rfl ha5 (by omega) hcs3 hsrc3 (by omega) (by rw [hs5, hsz4]; exact Nat.mul_le_mul_right _ (by omega)) rfl rfl ?_; clear F S hsrc3 ha5
  intro arr6 a w hs6 ha6 S F
  refine dv_nx trivial ?_
  refine dv_fin ok1 ?_
  refine then_n ?_
  refine wp_seq ?_
  refine wp_region_lit ?_
  refine wE (ev_move rfl) F S rfl fun a F=>?_
  refine wE (ev_assign rfl) F S rfl fun a F=>?_
  refine wpList_nil ?_
  refine then_n ?_
  refine wp_ret ?_
  refine then_r ?_
  rw [insL1 s_ v_ p hp hv1 _ _ rfl] at ha6
  refine post_r _ F rfl (ar_cons (resT rfl) ar_nil) ?_
  exact ⟨_, rfl, g, _, _, Le.refl _, St.tail [_] _ S, ha6.shut (by simp; omega) (by omega) (by rw [hs6, hs5, hsz4]), rfl⟩
 refine wp_condF F rfl (decide_eq_false hc2) ?_
 refine wp_skip ?_
 refine then_n ?_
 refine wp_seq ?_
 refine wp_region_lit ?_
 refine wE (ev_move rfl) F S rfl fun a F=>?_
 refine wE (ev_move rfl) F S rfl fun a F=>?_
 refine wE (ev_move rfl) F S rfl fun a F=>?_
 refine wE (ev_int rfl rfl (bo_add (ckI (by omega) (by omega)))) F S rfl fun a F=>?_
 refine wE (ev_sliceR0 (q := (s_.length + v_.length : Nat)) tu39 ts48 rfl rfl ⟨_, rfl⟩ (by omega) (by omega)) F S rfl fun a F=>?_
 refine wE (ev_assign rfl) F S rfl fun a F=>?_
 refine wpList_nil ?_
 refine then_n ?_
 refine wp_seq ?_
 refine wp_seq ?_
 refine wp_region_lit ?_
 refine wE (ev_move rfl) F S rfl fun a F=>?_
 refine wE (ev_move rfl) F S rfl fun a F=>?_
 refine wE (ev_move rfl) F S rfl fun a F=>?_
 refine wE (ev_move rfl) F S rfl fun a F=>?_
 refine wE (ev_int rfl rfl (bo_add (ckI (by omega) (by omega)))) F S rfl fun a F=>?_
 refine wE (ev_sliceRb (p := (p + v_.length : Nat)) tu39 ts48 rfl ⟨_, rfl⟩ rfl (by omega) (by omega) (by omega) (by omega)) F S rfl fun a F=>?_
 refine wE (ev_callxC (xs := [.tmp 61, .tmp 66]) (vs := [rs b2 0 v_.length cap2, rs b ((p + v_.length : Nat) * 2) (s_.length + v_.length - (p + v_.length)) (cap - (p + v_.length))]) rfl rfl (fun w S => run_ovl (tS := 39) (tR := 4) Tryd.func129 (by kernel_rfl) (by kernel_rfl) (by kernel_rfl) (by kernel_rfl) tu39 ts48 S (k1 := 1) (k2 := 0) rfl rfl (fun h => blocks_ne S h.symm) (by rw [hsz]; exact Nat.ne_of_gt (Nat.mul_pos (by omega) (by decide))))) F S rfl fun a F=>?_
 refine wE (ev_not rfl) F S rfl fun a F=>?_
 refine wpList_nil ?_
 refine then_n ?_
 refine wp_condT F rfl rfl ?_
 refine wp_seq ?_
 refine wp_dv [] mo S ?_; clear S; intro ok1 w S
 refine dv_et ok1 0 rfl (ev_move rfl) F rfl fun a F=>?_
 refine dv_et ok1 1 rfl (ev_move rfl) F rfl fun a F=>?_
 refine dv_et ok1 2 rfl (ev_move rfl) F rfl fun a F=>?_
 refine dv_et ok1 3 rfl (ev_int rfl rfl (bo_add (ckI (by omega) (by omega)))) F rfl fun a F=>?_
 refine dv_et ok1 4 rfl (ev_sliceRb (p := (p + v_.length : Nat)) tu39 ts48 rfl ⟨_, rfl⟩ rfl (by omega) (by omega) (by omega) (by omega)) F rfl fun a F=>?_
 refine dv_et ok1 5 rfl (ev_move rfl) F rfl fun a F=>?_
 refine dv_et ok1 6 rfl (ev_move rfl) F rfl fun a F=>?_
 refine dv_et ok1 7 rfl (ev_sliceRb (p := (p : Nat)) tu39 ts48 rfl ⟨_, rfl⟩ rfl (by omega) (by omega) (by omega) (by omega)) F rfl fun a F=>?_
 obtain ⟨cs3, hcs3, hsrc3⟩ := ha.srcD S (k := 0) rfl p (s_.length + v_.length - p) (cap - p) hp
 have hdl : (s_.drop p).length = s_.length - p := List.length_drop
 refine dv_op ok1 8 rfl [] ?_
 refine wl_copyR (wn rfl) rfl tu39 ts48 F S (p := p + v_.length) (b := b) rfl rfl (k := 0) rfl ha (by omega) hcs3 hsrc3 (by omega) (by rw [hsz]; exact Nat.mul_le_mul_right _ (by omega)) rfl rfl ?_; clear F S hsrc3 ha
 intro arr6 a w hs6 ha6 S F
 refine dv_nx trivial ?_
 refine dv_fin ok1 ?_
 refine then_n ?_
 refine wp_seq ?_
 refine wp_region_lit ?_
 refine wE (ev_move rfl) F S rfl fun a F=>?_
 refine wE (ev_move rfl) F S rfl fun a F=>?_
 refine wE (ev_sliceRb (p := (p : Nat)) tu39 ts48 rfl ⟨_, rfl⟩ rfl (by omega) (by omega) (by omega) (by omega)) F S rfl fun a F=>?_
 refine wE (ev_move rfl) F S rfl fun a F=>?_
 obtain ⟨cs2, hcs2, hsrc2⟩ := ov_1.srcOf S (k := 1) rfl
 refine wl_copyR (wn rfl) rfl tu39 ts48 F S (p := p) (b := b) rfl rfl (k := 0) rfl ha6 (by simp; omega) hcs2 hsrc2 (by omega) (by rw [hs6, hsz]; exact Nat.mul_le_mul_right _ (by omega)) rfl rfl ?_; clear F S hsrc2 ha6
 intro arr7 a w hs7 ha7 S F
 refine wpList_nil ?_
 refine then_n ?_
 refine wp_seq ?_
 refine wp_region_lit ?_
 refine wE (ev_move rfl) F S rfl fun a F=>?_
 refine wE (ev_assign rfl) F S rfl fun a F=>?_
 refine wpList_nil ?_
 refine then_n ?_
 refine wp_ret ?_
 refine then_r ?_
 rw [insL2 s_ v_ p hlt hv1] at ha7
 refine post_r _ F rfl (ar_cons (resT rfl) ar_nil) ?_
 exact ⟨_, rfl, g, _, _, Le.refl _, St.tail [_] _ S, ha7.shut (by simp; omega) (by omega) (by rw [hs7, hs6, hsz]), rfl⟩


theorem treepatch_Put_ok {g : Gh} {fr : Hl} {w : World} {r : FileTree} (bt_ : Nat) (t_ : FileTree) (vt_1 : Value) (ct_1 : Hl) (ht_1 : OwnS g t_.Files vt_1 ct_1) (path : ByteArray) (l_ : (List ByteArray)) (vl_1 : Value) (hl_1 : RepSl g l_ vl_1) (S : St g [[bx bt_ #[vt_1] 41], ct_1] fr w) (hm : treepatch_Put t_ path l_ = some r) :
  Calls Tryd.prog 77 [bp bt_ 0, .string path, vl_1].toArray w (fun en w' => ∃ v, en = .returned v ∧ ∃ (g' : Gh) (v1 : Value) (c1 : Hl), Le g g' ∧ St g' [[bx bt_ #[v1] 41], c1] fr w' ∧ OwnS g' r.Files v1 c1 ∧ .tuple #[] = v) := by
 unfold treepatch_Put at hm
 refine calls_enter (fn := Tryd.f77) Tryd.func77 rfl Tryd.ntmps77 (lb rfl) ?_
 intro a F
 replace F : Fr 40 a [(0, bp bt_ 0), (1, .string path), (2, vl_1)] := F
 refine wp_seq ?_
 refine wp_region_lit ?_
 refine wE (ev_move rfl) F S rfl fun a F=>?_
 refine wE (ev_nil rfl) F S rfl fun a F=>?_
 refine wE (ev_fieldAddr' tu41 tf41_0 (z := 0) ts39 rfl ⟨_, rfl⟩ rfl) F S rfl fun a F=>?_
 refine wE (ev_load1 tu39 rfl rfl (box_ptr (cells := [vt_1]) 0 rfl 0 rfl (lb rfl))) F S rfl fun a F=>?_
 refine wE (ev_move rfl) F S rfl fun a F=>?_
 replace S : St g [ct_1, [bx bt_ #[vt_1] 41]] fr w := ((S.frontC 0 rfl).frontC 2 rfl)
 obtain ⟨y1, hy1, hm⟩ := bind_some hm
 refine wl_call0 (wn rfl) rfl F rfl (treepatch_Find_okb (fr := (fl [[bx bt_ #[vt_1] 41]] fr)) t_.Files vt_1 ct_1 ht_1 path S hy1) rfl tc65 rfl rfl ?_; clear F a S
 rintro _ a w ⟨g1, l1, S, rfl⟩ F; replace S : St g1 [ct_1, [bx bt_ #[vt_1] 41]] fr w := S
 refine wE (ev_move rfl) F S rfl fun a F=>?_
 refine wE (ev_extract rfl rfl) F S rfl fun a F=>?_
 refine wE (ev_extract rfl rfl) F S rfl fun a F=>?_
 refine wE (ev_assign rfl) F S rfl fun a F=>?_
 refine wE (ev_assign rfl) F S rfl fun a F=>?_
 refine wpList_nil ?_
 refine then_n ?_
 refine wp_cut (fun a w => ∃ (x1 : List File) (v1 : Value) (c1 : Hl) (g2 : Gh), Fr 40 a [(6, .i6 y1.1), (0, bp bt_ 0), (2, vl_1)] ∧ Le g1 g2 ∧ St g2 [[bx bt_ #[v1] 41], c1] fr w ∧ OwnS g2 x1 v1 c1 ∧ treepatch_Put.j1 l_ y1 x1 = some r) ?_ ?_
 ·refine wp_seq ?_
  refine wp_region_lit ?_
  refine wE (ev_move rfl) F S rfl fun a F=>?_
  refine wE (ev_not rfl) F S rfl fun a F=>?_
  refine wpList_nil ?_
  refine then_n ?_
  obtain ⟨hc1, hm⟩ | ⟨hc1, hm⟩ := ite_or hm
  ·refine wp_condT F rfl hc1 ?_
   refine wp_region_lit ?_
   refine wE (ev_move rfl) F S rfl fun a F=>?_
   refine wE (ev_move rfl) F S rfl fun a F=>?_
   refine wE (ev_nil rfl) F S rfl fun a F=>?_
   refine wE (ev_fieldAddr' tu41 tf41_0 (z := 0) ts39 rfl ⟨_, rfl⟩ rfl) F S rfl fun a F=>?_
   refine wE (ev_load1 tu39 rfl rfl (box_ptr (cells := [vt_1]) 1 rfl 0 rfl (lb rfl))) F S rfl fun a F=>?_
   refine wE (ev_move rfl) F S rfl fun a F=>?_
   refine wE (ev_move rfl) F S rfl fun a F=>?_
   refine wE (ev_build (parts := [(0, .tmp 25)]) (vs := [(0, .string path)]) rfl (fun w => tb48_0 path w)) F S rfl fun a F=>?_
   refine wl_lit (l := ([({ Path := path, Lines := [] } : File)] : List File)) (vs := [.agg #[.string path, nilS]]) (parts := [(0, .tmp 26)]) (wn rfl) rfl rfl rfl tu39 te48 (sz_cons rfl sz_nil) rfl (Cat.cons (rep_File_mk (x := ({ Path := path, Lines := [] } : File)) (RepSl.nil _)) (Cat.nil _)) (coa_cons rfl coa_nil) rfl F S rfl rfl ?_; clear F a S
   rintro v4 c4 a w h6 F S
   replace S : St g1 [ct_1, c4, [bx bt_ #[vt_1] 41]] fr w := (((S.frontC 2 rfl).frontC 1 rfl).frontC 3 rfl)
   obtain ⟨y5, hy5, hm⟩ := bind_some hm
   refine wl_call0 (wn rfl) rfl F rfl (slices_Insert_48_ok (fr := (fl [[bx bt_ #[vt_1] 41]] fr)) t_.Files vt_1 ct_1 (ht_1.mono l1) y1.1 ([({ Path := path, Lines := [] } : File)] : List File) v4 c4 h6 S hy5) rfl tc113 rfl rfl ?_; clear F a S
   rintro _ a w ⟨g5, v5, c5, l5, S, h7, rfl⟩ F; replace S : St g5 [c5, [bx bt_ #[vt_1] 41]] fr w := S
   refine wE (ev_nil rfl) F S rfl fun a F=>?_
   refine wE (ev_fieldAddr' tu41 tf41_0 (z := 0) ts39 rfl ⟨_, rfl⟩ rfl) F S rfl fun a F=>?_
   refine wl_storeC (wn rfl) rfl F S rfl rfl (vs := [v5]) (OwnS.cl h7) ts39 (one_cons (OwnS.one h7) one_nil) (k := 1) rfl (lb rfl) (c' := #[v5]) rfl rfl ?_; clear S; intro w S
   refine wpList_nil ?_
   refine then_n ?_
   replace S : St g5 [[bx bt_ #[v5] 41], c5] fr w := St.tail [[bx bt_ #[v5] 41], c5] _ ((S.frontC 0 rfl).frontC 2 rfl)
   exact ⟨y5, v5, c5, g5, F.sub ⟨rfl, rfl, rfl, trivial⟩, l5, S, h7, hm⟩
  ·refine wp_condF F rfl hc1 ?_
   refine wp_skip ?_
   refine then_n ?_
   replace S : St g1 [[bx bt_ #[vt_1] 41], ct_1] fr w := St.tail [[bx bt_ #[vt_1] 41], ct_1] _ ((S.frontC 0 rfl).frontC 2 rfl)
   exact ⟨t_.Files, vt_1, ct_1, g1, F.sub ⟨rfl, rfl, rfl, trivial⟩, (Le.refl _), S, (ht_1.mono l1), hm⟩
 ·clear F S hm; rintro a w ⟨x1, v1, c1, g2, F, l2, S, h1, hm⟩
  refine wp_dv [] mo S ?_; clear S; intro ok1 w S
  refine dv_et ok1 0 rfl (ev_move rfl) F rfl fun a F=>?_
  refine dv_et ok1 1 rfl (ev_nil rfl) F rfl fun a F=>?_
  refine dv_et ok1 2 rfl (ev_fieldAddr' tu41 tf41_0 (z := 0) ts39 rfl ⟨_, rfl⟩ rfl) F rfl fun a F=>?_
  refine dv_ev ok1 3 rfl (ev_load1 tu39 rfl rfl (box_ptr (cells := [v1]) 0 rfl 0 rfl (lb rfl))) F S rfl fun a F=>?_
  refine dv_et ok1 4 rfl (ev_move rfl) F rfl fun a F=>?_
  refine dv_et ok1 5 rfl (ev_move rfl) F rfl fun a F=>?_
  refine dv_op ok1 6 rfl [(3, v1)] ?_
  obtain ⟨y2, hy2, hm⟩ := bind_some hm
  refine wl_call0 (wn rfl) rfl F rfl (slices_Clone_ok (fr := (fl [[bx bt_ #[v1] 41], c1] fr)) l_ vl_1 (hl_1.mono (l1.trans l2)) S hy2) rfl tc24 rfl rfl ?_; clear F a S
  rintro _ a w ⟨g3, v2, c2, l3, S, h2, rfl⟩ F; replace S : St g3 [c2, [bx bt_ #[v1] 41], c1] fr w := S
  refine dv_nx ⟨yl_ev rfl rfl (ev_load1 tu39 rfl rfl (box_ptr (cells := [v1]) 1 rfl 0 rfl (lb rfl))) F S, trivial⟩ ?_
  obtain ⟨y3, hy3, hm⟩ := bind_some hm
  refine dv_et ok1 7 rfl (ev_idxO (h1.mono l3) hy3 tu39 ts48 rfl rfl) F rfl fun a F=>?_
  refine dv_et ok1 8 rfl (ev_fieldAddr' tu48 tf48_1 (z := 0) ts22 rfl (elemO_ptr (h1.mono l3) hy3) rfl) F rfl fun a F=>?_
  refine dv_op ok1 9 rfl [] ?_
  obtain ⟨g4, l4, S, h3⟩ : ∃ gz, Le g3 gz ∧ St gz [[bx bt_ #[v1] 41], c1] fr w ∧ RepSl gz y2 v2 := ⟨_, Le.add _ _, S.freeze 0 rfl, OwnS.freeze (S.front 0 rfl) h2⟩
  obtain ⟨y4, hy4, hm⟩ := bind_some hm
  refine wl_storeE (z' := ({ Path := y3.Path, Lines := y2 } : File)) 1 (wn rfl) rfl F S (h1.mono (l3.trans l4)) hy3 rfl rfl rfl (us := [v2]) (RepSl.cl h3) ts22 (one_cons h3.one one_nil) (k := 1) rfl (lb rfl) (fun cs hcs => by obtain ⟨v3, rfl, h5⟩ := rep_File hcs; exact (rep_File_mk (x := ({ Path := y3.Path, Lines := y2 } : File)) h3)) rfl ?_; clear S
  rintro c3 w h4 S; replace S : St g4 [[bx bt_ #[v1] 41], c3] fr w := S; replace h4 : OwnS g4 y4 v1 c3 := sinj hy4 ▸ h4
  refine dv_nx trivial ?_
  refine dv_fin ok1 ?_
  obtain rfl := sinj hm
  refine post_n _ F rfl ar_nil ?_
  exact ⟨_, rfl, g4, v1, c3, (((l1.trans l2).trans l3).trans l4), S, h4, rfl⟩

theorem slices_Delete_48_ok {g : Gh} {fr : Hl} {w : World} {r : List File} (s_ : List File) (vs_1 : Value) (c_1 : Hl) (os_1 : OwnS g s_ vs_1 c_1) (i_ j_ : Int) (S : St g [c_1] fr w) (hm : del? s_ i_ j_ = some r) :
 Calls Tryd.prog 78 [vs_1, .i6 i_, .i6 j_].toArray w (fun en w' => ∃ v, en = .returned v ∧ ∃ (g' : Gh) (v1 : Value) (c1 : Hl), Le g g' ∧ St g' [c1] fr w' ∧ OwnS g' r v1 c1 ∧ v1 = v) := by
 obtain ⟨p, q, rfl, rfl, hpq, hq, rfl⟩ := del?_some hm
 refine calls_enter (fn := Tryd.f78) Tryd.func78 rfl Tryd.ntmps78 (lb rfl) ?_
 intro a F
 replace F : Fr 33 a [(0, vs_1), (1, .i6 p), (2, .i6 q)] := F
 refine wp_seq ?_
 refine wp_region_lit ?_
 refine wE (ev_assign rfl) F S rfl fun a F=>?_
 refine wpList_nil ?_
 refine then_n ?_
 refine wp_seq ?_
 refine wp_region_lit ?_
 refine wE (ev_move rfl) F S rfl fun a F=>?_
 refine wE (ev_move rfl) F S rfl fun a F=>?_
 refine wE (ev_move rfl) F S rfl fun a F=>?_
 refine wE (ev_move rfl) F S rfl fun a F=>?_
 refine wE (ev_lenOw os_1 rfl tu39) F S rfl fun a F=>?_
 obtain ⟨a0, cap0, hv0, hc0⟩ := os_1.len
 obtain ⟨v3, ev3⟩ := ev_slice3 F (P := Tryd.prog) (C := St g [c_1] fr) (x := .tmp 8) (lo := .tmp 9) (hi := .tmp 10) (mx := .tmp 12) tu39 ts48 rfl hv0 rfl rfl rfl (by omega) (by omega) (by omega) (by omega)
 refine wE ev3 F S rfl fun a F=>?_
 refine wpList_nil ?_
 refine then_n ?_
 refine wp_seq ?_
 refine wp_seq ?_
 refine wp_region_lit ?_
 refine wE (ev_move rfl) F S rfl fun a F=>?_
 refine wE (ev_move rfl) F S rfl fun a F=>?_
 refine wE (ev_int rfl rfl (bo_eql _ _ _ _)) F S rfl fun a F=>?_
 refine wpList_nil ?_
 refine then_n ?_
 by_cases hc1 : (p : Int) = q
 ·refine wp_condT F rfl (decide_eq_true hc1) ?_
  refine wp_seq ?_
  refine wp_region_lit ?_
  refine wE (ev_move rfl) F S rfl fun a F=>?_
  refine wE (ev_assign rfl) F S rfl fun a F=>?_
  refine wpList_nil ?_
  refine then_n ?_
  refine wp_ret ?_
  refine then_r ?_
  refine post_r _ F rfl (ar_cons (resT rfl) ar_nil) ?_
  have hpq' : p = q := by omega
  subst hpq'
  exact ⟨_, rfl, g, vs_1, c_1, Le.refl _, S, by rw [List.take_append_drop]; exact os_1, rfl⟩
 ·refine wp_condF F rfl (decide_eq_false hc1) ?_
  refine wp_skip ?_
  refine then_n ?_
  have hlt : p < q := by omega
  obtain ⟨b, cap, arr, t, rfl, rfl, hcap, hsz, ha⟩ := os_1.open (by intro h; subst h; simp at hq; omega)
  refine wp_seq ?_
  refine wp_region_lit ?_
  refine wE (ev_move rfl) F S rfl fun a F=>?_
  refine wE (ev_len rfl tu39) F S rfl fun a F=>?_
  refine wE (ev_assign rfl) F S rfl fun a F=>?_
  refine wpList_nil ?_
  refine then_n ?_
  refine wp_seq ?_
  refine wp_dv [7] mo S ?_; clear S; intro ok1 w S
  refine dv_et ok1 0 rfl (ev_move rfl) F rfl fun a F=>?_
  refine dv_et ok1 1 rfl (ev_move rfl) F rfl fun a F=>?_
  refine dv_et ok1 2 rfl (ev_sliceR0 (q := p) tu39 ts48 rfl rfl ⟨_, rfl⟩ (by omega) (by omega)) F rfl fun a F=>?_
  refine dv_et ok1 3 rfl (ev_move rfl) F rfl fun a F=>?_
  refine dv_et ok1 4 rfl (ev_move rfl) F rfl fun a F=>?_
  obtain ⟨o1, ho1, ev1⟩ := ev_sliceT F (P := Tryd.prog) (C := fun _ => True) (x := .tmp 23) (lo := some (.tmp 24)) (hi := Option.none) tu39 ts48 rfl ⟨_, rfl⟩ rfl hq hcap
  refine dv_et ok1 5 rfl ev1 F rfl fun a F=>?_
  obtain ⟨cs, hcs, hsrc⟩ := ha.srcT S (k := 0) rfl q o1 (s_.length - q) cap (cap - q) hq hcap ho1 rfl
  refine dv_op ok1 6 rfl [] ?_
  have hdl : (s_.drop q).length = s_.length - q := List.length_drop
  refine wl_appendR (wn rfl) rfl tu39 tu39 ts48 F S rfl rfl (k := 0) (b := b) (p := p) (cap := cap) rfl ha (by omega) hcs hsrc hdl.symm (by omega) hsz rfl rfl ?_; clear F S hsrc ha; intro arr1 a w hs1 ha S F
  refine dv_nx trivial ?_
  refine dv_op ok1 7 rfl [] ?_
  refine wE (ev_assign rfl) F S rfl fun a F=>?_
  refine dv_nx trivial ?_
  refine dv_fin ok1 ?_
  refine then_n ?_
  refine wp_seq ?_
  refine wp_region_lit ?_
  refine wE (ev_move rfl) F S rfl fun a F=>?_
  refine wE (ev_move rfl) F S rfl fun a F=>?_
  refine wE (ev_len rfl tu39) F S rfl fun a F=>?_
  refine wE (ev_move rfl) F S rfl fun a F=>?_
  have hrl : (s_.take p ++ s_.drop q).length = p + (s_.drop q).length := by simp; omega
  refine wE (ev_sliceRb (p := (p + (s_.drop q).length : Nat)) (q := (s_.length : Nat)) tu39 ts48 rfl ⟨_, rfl⟩ ⟨_, rfl⟩ (by omega) (by omega) (by omega) (by omega)) F S rfl fun a F=>?_
  refine wl_clearR (wn rfl) rfl tu39 te48 zr48 F S rfl (k := 0) (b := b) (p := p + (s_.drop q).length) (m := s_.length - (p + (s_.drop q).length)) rfl ha hrl.symm ?_ rfl ?_
  ·rw [hs1, hsz]; exact Nat.mul_le_mul_right _ (by omega)
  clear S ha; intro arr2 w hs2 ha S
  refine wpList_nil ?_
  refine then_n ?_
  refine wp_seq ?_
  refine wp_region_lit ?_
  refine wE (ev_move rfl) F S rfl fun a F=>?_
  refine wE (ev_assign rfl) F S rfl fun a F=>?_
  refine wpList_nil ?_
  refine then_n ?_
  refine wp_ret ?_
  refine post_r _ F rfl (ar_cons (resT rfl) ar_nil) ?_
  exact ⟨_, rfl, g, _, _, Le.refl _, S, ha.shut hrl.symm (by omega) (by rw [hs2, hs1, hsz]), rfl⟩


theorem treepatch_make1_ok {g : Gh} {fr : Hl} {w : World} {r : Int × FileTree} (c_ : TreeChange) (vc_1 : Value) (hc_1 : RepSl g c_.Lines vc_1) (vc_2 : Value) (hc_2 : RepSl g c_.Patch.Hunks vc_2) (bt_ : Nat) (t_ : FileTree) (vt_1 : Value) (ct_1 : Hl) (ht_1 : OwnS g t_.Files vt_1 ct_1) (S : St g [[bx bt_ #[vt_1] 41], ct_1] fr w) (hm : treepatch_make1 c_ t_ = some r) :
  Calls Tryd.prog 58 [.agg #[.i6 c_.Kind, .string c_.Path, .string c_.To, vc_1, vc_2], bp bt_ 0].toArray w (fun en w' => ∃ v, en = .returned v ∧ ∃ (g' : Gh) (v1 : Value) (c1 : Hl), Le g g' ∧ St g' [[bx bt_ #[v1] 41], c1] fr w' ∧ OwnS g' r.2.Files v1 c1 ∧ .i6 r.1 = v) := by
 unfold treepatch_make1 at hm
 refine calls_enter (fn := Tryd.f58) Tryd.func58 rfl Tryd.ntmps58 (lb rfl) ?_
 intro a F
 replace F : Fr 120 a [(0, .agg #[.i6 c_.Kind, .string c_.Path, .string c_.To, vc_1, vc_2]), (1, bp bt_ 0)] := F
 refine wp_seq ?_
 refine wp_region_lit ?_
 refine wl_boxC (wn rfl) rfl rfl rfl F S rfl rfl ?_; clear F a S; rintro b1 a w F S
 refine wE (ev_assign rfl) F S rfl fun a F=>?_
 refine wpList_nil ?_
 refine then_n ?_
 refine wp_seq ?_
 refine wp_quiet mo (by kernel_rfl) S ?_
 refine wq_ev (wn rfl) (ev_move rfl) F rfl rfl ?_; clear F a; intro a F
 refine wq_ev (wn rfl) (ev_nil rfl) F rfl rfl ?_; clear F a; intro a F
 refine wq_ev (wn rfl) (ev_fieldAddr' tu41 tf41_0 (z := 0) ts39 rfl ⟨_, rfl⟩ rfl) F rfl rfl ?_; clear F a; intro a F
 refine wq_ev (wn rfl) (ev_load1 tu39 rfl rfl (box_ptr (cells := [vt_1]) 1 rfl 0 rfl (lb rfl))) F rfl rfl ?_; clear F a; intro a F
 refine wq_ev (wn rfl) (ev_fieldAddr' tu118 tf118_1 (z := 0) ts9 rfl ⟨_, rfl⟩ rfl) F rfl rfl ?_; clear F a; intro a F
 refine wq_ev (wn rfl) (ev_load1 tu9 rfl rfl (box_ptr (cells := [.string c_.Path]) 0 rfl 1 rfl (lb rfl))) F rfl rfl ?_; clear F a; intro a F
 obtain ⟨y1, hy1, hm⟩ := bind_some hm
 refine wq_call (wn rfl) rfl (xs := [.tmp 14, .tmp 16]) (vs := [vt_1, .string c_.Path]) (cap := []) F rfl rfl tc65 (v := .tuple #[.i6 y1.1, .bool y1.2]) (fun w S => by replace S : St g [ct_1, [bx b1 #[.i6 c_.Kind, .string c_.Path, .string c_.To, vc_1, vc_2] 118], [bx bt_ #[vt_1] 41]] fr w := (St.tail [ct_1, [bx b1 #[.i6 c_.Kind, .string c_.Path, .string c_.To, vc_1, vc_2] 118], [bx bt_ #[vt_1] 41]] _ (((S.frontC 1 rfl).frontC 1 rfl).frontC 4 rfl)); exact (treepatch_Find_okb (g := g) (fr := (fl [[bx b1 #[.i6 c_.Kind, .string c_.Path, .string c_.To, vc_1, vc_2] 118], [bx bt_ #[vt_1] 41]] fr)) (w := w) t_.Files vt_1 ct_1 ht_1 c_.Path S hy1).mono (by rintro en w' ⟨_, rfl, g2, l2, S2, rfl⟩; have S3 : St g [ct_1, [bx b1 #[.i6 c_.Kind, .string c_.Path, .string c_.To, vc_1, vc_2] 118], [bx bt_ #[vt_1] 41]] fr w' := S2.weak l2; exact ⟨rfl, (St.tail [[bx b1 #[.i6 c_.Kind, .string c_.Path, .string c_.To, vc_1, vc_2] 118], [bx bt_ #[vt_1] 41], ct_1] _ (((S3.frontC 0 rfl).frontC 3 rfl).frontC 3 rfl))⟩)) rfl rfl ?_; clear F a; intro a F
 refine wq_ev (wn rfl) (ev_move rfl) F rfl rfl ?_; clear F a; intro a F
 refine wq_ev (wn rfl) (ev_extract rfl rfl) F rfl rfl ?_; clear F a; intro a F
 refine wq_ev (wn rfl) (ev_extract rfl rfl) F rfl rfl ?_; clear F a; intro a F
 refine wq_ev (wn rfl) (ev_assign rfl) F rfl rfl ?_; clear F a; intro a F
 refine wq_ev (wn rfl) (ev_assign rfl) F rfl rfl ?_; clear F a; intro a F
 refine wq_nil ?_; clear S; intro w S
 refine then_n ?_
 refine wp_seq ?_
 refine wp_block ?_
 refine wp_seq ?_
 refine wp_region_lit ?_
 refine wE (ev_fieldAddr' tu118 tf118_0 (z := 0) ts3 rfl ⟨_, rfl⟩ rfl) F S rfl fun a F=>?_
 refine wE (ev_load1 tu3 rfl rfl (box_ptr (cells := [.i6 c_.Kind]) 0 rfl 0 rfl (lb rfl))) F S rfl fun a F=>?_
 refine wE (ev_int rfl rfl (bo_eql _ _ _ _)) F S rfl fun a F=>?_
 refine wE (ev_assign rfl) F S rfl fun a F=>?_
 refine wpList_nil ?_
 refine then_n ?_
 obtain ⟨hc1, hm⟩ | ⟨hc1, hm⟩ := ite_or hm
 ·refine wp_condT F rfl hc1 ?_
  refine wp_seq ?_
  refine wp_seq ?_
  refine wp_quiet mo (by kernel_rfl) S ?_
  refine wq_ev (wn rfl) (ev_move rfl) F rfl rfl ?_; clear F a; intro a F
  refine wq_ev (wn rfl) (ev_nil rfl) F rfl rfl ?_; clear F a; intro a F
  refine wq_ev (wn rfl) (ev_fieldAddr' tu41 tf41_0 (z := 0) ts39 rfl ⟨_, rfl⟩ rfl) F rfl rfl ?_; clear F a; intro a F
  refine wq_ev (wn rfl) (ev_load1 tu39 rfl rfl (box_ptr (cells := [vt_1]) 1 rfl 0 rfl (lb rfl))) F rfl rfl ?_; clear F a; intro a F
  refine wq_ev (wn rfl) (ev_fieldAddr' tu118 tf118_1 (z := 0) ts9 rfl ⟨_, rfl⟩ rfl) F rfl rfl ?_; clear F a; intro a F
  refine wq_ev (wn rfl) (ev_load1 tu9 rfl rfl (box_ptr (cells := [.string c_.Path]) 0 rfl 1 rfl (lb rfl))) F rfl rfl ?_; clear F a; intro a F
  obtain ⟨y2, hy2, hm⟩ := bind_some hm
  refine wq_call (wn rfl) rfl (xs := [.tmp 27, .tmp 29, .const (.i6 (-1))]) (vs := [vt_1, .string c_.Path, .i6 (-1)]) (cap := []) F rfl rfl tc61 (v := .bool y2) (fun w S => by replace S : St g [ct_1, [bx b1 #[.i6 c_.Kind, .string c_.Path, .string c_.To, vc_1, vc_2] 118], [bx bt_ #[vt_1] 41]] fr w := (St.tail [ct_1, [bx b1 #[.i6 c_.Kind, .string c_.Path, .string c_.To, vc_1, vc_2] 118], [bx bt_ #[vt_1] 41]] _ (((S.frontC 1 rfl).frontC 1 rfl).frontC 4 rfl)); exact (treepatch_Clash_okb (g := g) (fr := (fl [[bx b1 #[.i6 c_.Kind, .string c_.Path, .string c_.To, vc_1, vc_2] 118], [bx bt_ #[vt_1] 41]] fr)) (w := w) t_.Files vt_1 ct_1 ht_1 c_.Path (-1) S hy2).mono (by rintro en w' ⟨_, rfl, g2, l2, S2, rfl⟩; have S3 : St g [ct_1, [bx b1 #[.i6 c_.Kind, .string c_.Path, .string c_.To, vc_1, vc_2] 118], [bx bt_ #[vt_1] 41]] fr w' := S2.weak l2; exact ⟨rfl, (St.tail [[bx b1 #[.i6 c_.Kind, .string c_.Path, .string c_.To, vc_1, vc_2] 118], [bx bt_ #[vt_1] 41], ct_1] _ (((S3.frontC 0 rfl).frontC 3 rfl).frontC 3 rfl))⟩)) rfl rfl ?_; clear F a; intro a F
  refine wq_nil ?_; clear S; intro w S
  refine then_n ?_
  obtain ⟨hc2, hm⟩ | ⟨hc2, hm⟩ := ite_or hm
  ·refine wp_condT F rfl hc2 ?_
   refine wp_seq ?_
   refine wp_region_lit ?_
   refine wE (ev_assign rfl) F S rfl fun a F=>?_
   refine wpList_nil ?_
   refine then_n ?_
   refine wp_ret ?_
   refine then_r ?_
   refine inb_r ?_
   refine then_r ?_
   obtain rfl := sinj hm
   refine post_r _ F rfl (ar_cons (resT rfl) ar_nil) ?_
   replace S : St g [[bx bt_ #[vt_1] 41], ct_1] fr w := St.tail [[bx bt_ #[vt_1] 41], ct_1] _ ((S.frontC 2 rfl).frontC 2 rfl)
   exact ⟨_, rfl, g, vt_1, ct_1, (Le.refl _), S, ht_1, rfl⟩
  ·refine wp_condF F rfl hc2 ?_
   refine wp_skip ?_
   refine then_n ?_
   refine wp_seq ?_
   refine wp_seq ?_
   refine wp_region_lit ?_
   refine wE (ev_move rfl) F S rfl fun a F=>?_
   refine wE (ev_nil rfl) F S rfl fun a F=>?_
   refine wE (ev_fieldAddr' tu41 tf41_0 (z := 0) ts39 rfl ⟨_, rfl⟩ rfl) F S rfl fun a F=>?_
   refine wE (ev_load1 tu39 rfl rfl (box_ptr (cells := [vt_1]) 1 rfl 0 rfl (lb rfl))) F S rfl fun a F=>?_
   refine wE (ev_lenOw ht_1 rfl tu39) F S rfl fun a F=>?_
   refine wE (ev_int rfl rfl (bo_geq _ _ _ _)) F S rfl fun a F=>?_
   refine wpList_nil ?_
   refine then_n ?_
   obtain ⟨hc3, hm⟩ | ⟨hc3, hm⟩ := ite_or hm
   ·refine wp_condT F rfl hc3 ?_
    refine wp_seq ?_
    refine wp_region_lit ?_
    refine wE (ev_assign rfl) F S rfl fun a F=>?_
    refine wpList_nil ?_
    refine then_n ?_
    refine wp_ret ?_
    refine then_r ?_
    refine inb_r ?_
    refine then_r ?_
    obtain rfl := sinj hm
    refine post_r _ F rfl (ar_cons (resT rfl) ar_nil) ?_
    replace S : St g [[bx bt_ #[vt_1] 41], ct_1] fr w := St.tail [[bx bt_ #[vt_1] 41], ct_1] _ ((S.frontC 2 rfl).frontC 2 rfl)
    exact ⟨_, rfl, g, vt_1, ct_1, (Le.refl _), S, ht_1, rfl⟩
   ·refine wp_condF F rfl hc3 ?_
    refine wp_skip ?_
    refine then_n ?_
    refine wp_seq ?_
    refine wp_region_lit ?_
    refine wE (ev_move rfl) F S rfl fun a F=>?_
    refine wE (ev_fieldAddr' tu118 tf118_1 (z := 0) ts9 rfl ⟨_, rfl⟩ rfl) F S rfl fun a F=>?_
    refine wE (ev_load1 tu9 rfl rfl (box_ptr (cells := [.string c_.Path]) 0 rfl 1 rfl (lb rfl))) F S rfl fun a F=>?_
    refine wE (ev_fieldAddr' tu118 tf118_3 (z := 0) ts22 rfl ⟨_, rfl⟩ rfl) F S rfl fun a F=>?_
    refine wE (ev_load1 tu22 rfl rfl (box_ptr (cells := [vc_1]) 0 rfl 3 rfl (lb rfl))) F S rfl fun a F=>?_
    replace S : St g [[bx bt_ #[vt_1] 41], ct_1, [bx b1 #[.i6 c_.Kind, .string c_.Path, .string c_.To, vc_1, vc_2] 118]] fr w := (((S.frontC 0 rfl).frontC 3 rfl).frontC 3 rfl)
    obtain ⟨y3, hy3, hm⟩ := bind_some hm
    refine wl_call0 (wn rfl) rfl F rfl (treepatch_Put_ok (fr := (fl [[bx b1 #[.i6 c_.Kind, .string c_.Path, .string c_.To, vc_1, vc_2] 118]] fr)) bt_ t_ vt_1 ct_1 ht_1 c_.Path c_.Lines vc_1 hc_1 S hy3) rfl tc77 rfl rfl ?_; clear F a S
    rintro _ a w ⟨g3, v1, c1, l3, S, h1, rfl⟩ F; replace S : St g3 [[bx bt_ #[v1] 41], c1, [bx b1 #[.i6 c_.Kind, .string c_.Path, .string c_.To, vc_1, vc_2] 118]] fr w := S
    refine wpList_nil ?_
    refine then_n ?_
    refine wp_seq ?_
    refine wp_region_lit ?_
    refine wE (ev_assign rfl) F S rfl fun a F=>?_
    refine wpList_nil ?_
    refine then_n ?_
    refine wp_ret ?_
    refine inb_r ?_
    refine then_r ?_
    obtain rfl := sinj hm
    refine post_r _ F rfl (ar_cons (resT rfl) ar_nil) ?_
    replace S : St g3 [[bx bt_ #[v1] 41], c1] fr w := St.tail [[bx bt_ #[v1] 41], c1] _ ((S.frontC 1 rfl).frontC 1 rfl)
    exact ⟨_, rfl, g3, v1, c1, l3, S, h1, rfl⟩
 ·refine wp_condF F rfl hc1 ?_
  refine wp_seq ?_
  refine wp_region_lit ?_
  refine wE (ev_move rfl) F S rfl fun a F=>?_
  refine wE (ev_not rfl) F S rfl fun a F=>?_
  refine wE (ev_assign rfl) F S rfl fun a F=>?_
  refine wpList_nil ?_
  refine then_n ?_
  obtain ⟨hc4, hm⟩ | ⟨hc4, hm⟩ := ite_or hm
  ·refine wp_condT F rfl hc4 ?_
   refine wp_seq ?_
   refine wp_region_lit ?_
   refine wE (ev_assign rfl) F S rfl fun a F=>?_
   refine wpList_nil ?_
   refine then_n ?_
   refine wp_ret ?_
   refine inb_r ?_
   refine then_r ?_
   obtain rfl := sinj hm
   refine post_r _ F rfl (ar_cons (resT rfl) ar_nil) ?_
   replace S : St g [[bx bt_ #[vt_1] 41], ct_1] fr w := St.tail [[bx bt_ #[vt_1] 41], ct_1] _ ((S.frontC 2 rfl).frontC 2 rfl)
   exact ⟨_, rfl, g, vt_1, ct_1, (Le.refl _), S, ht_1, rfl⟩
  ·refine wp_condF F rfl hc4 ?_
   refine wp_skip ?_
   refine inb_n ?_
   refine then_n ?_
   refine wp_seq ?_
   refine wp_region_lit ?_
   refine wE (ev_move rfl) F S rfl fun a F=>?_
   refine wE (ev_nil rfl) F S rfl fun a F=>?_
   refine wE (ev_fieldAddr' tu41 tf41_0 (z := 0) ts39 rfl ⟨_, rfl⟩ rfl) F S rfl fun a F=>?_
   refine wE (ev_load1 tu39 rfl rfl (box_ptr (cells := [vt_1]) 1 rfl 0 rfl (lb rfl))) F S rfl fun a F=>?_
   refine wE (ev_move rfl) F S rfl fun a F=>?_
   obtain ⟨y4, hy4, hm⟩ := bind_some hm
   refine wE (ev_idxO ht_1 hy4 tu39 ts48 rfl rfl) F S rfl fun a F=>?_
   refine wE (ev_fieldAddr' tu48 tf48_1 (z := 0) ts22 rfl (elemO_ptr ht_1 hy4) rfl) F S rfl fun a F=>?_
   obtain ⟨cs1, hr1, hq1⟩ := elemO ht_1 hy4
   obtain ⟨v2, rfl, h2⟩ := rep_File hr1
   refine wE (ev_load1 tu22 rfl rfl (fun w s => fieldP (cells := [v2]) 1 (hq1 _ _ 2 rfl w s) rfl (lb rfl))) F S rfl fun a F=>?_
   refine wE (ev_assign rfl) F S rfl fun a F=>?_
   refine wpList_nil ?_
   refine then_n ?_
   refine wp_cut (fun a w => ∃ (x1 : List File) (v3 : Value) (c2 : Hl) (g4 : Gh), Fr 120 a [(1, bp bt_ 0)] ∧ Le g g4 ∧ St g4 [[bx bt_ #[v3] 41], c2] fr w ∧ OwnS g4 x1 v3 c2 ∧ treepatch_make1.j1 x1 = some r) ?_ ?_
   ·refine wp_seq ?_
    refine wp_region_lit ?_
    refine wE (ev_fieldAddr' tu118 tf118_0 (z := 0) ts3 rfl ⟨_, rfl⟩ rfl) F S rfl fun a F=>?_
    refine wE (ev_load1 tu3 rfl rfl (box_ptr (cells := [.i6 c_.Kind]) 0 rfl 0 rfl (lb rfl))) F S rfl fun a F=>?_
    refine wpList_nil ?_
    refine then_n ?_
    refine wp_block ?_
    refine wp_seq ?_
    refine wp_region_lit ?_
    refine wE (ev_int rfl rfl (bo_eql _ _ _ _)) F S rfl fun a F=>?_
    refine wE (ev_assign rfl) F S rfl fun a F=>?_
    refine wpList_nil ?_
    refine then_n ?_
    obtain ⟨hc5, hm⟩ | ⟨hc5, hm⟩ := ite_or hm
    ·refine wp_condT F rfl hc5 ?_
     refine wp_seq ?_
     refine wp_seq ?_
     refine wp_region_lit ?_
     refine wE (ev_move rfl) F S rfl fun a F=>?_
     refine wE (ev_fieldAddr' tu118 tf118_3 (z := 0) ts22 rfl ⟨_, rfl⟩ rfl) F S rfl fun a F=>?_
     refine wE (ev_load1 tu22 rfl rfl (box_ptr (cells := [vc_1]) 0 rfl 3 rfl (lb rfl))) F S rfl fun a F=>?_
     obtain ⟨y5, hy5, hm⟩ := bind_some hm
     refine wl_call0 (wn rfl) rfl F rfl (slices_Equal_ok (fr := (fl [[bx b1 #[.i6 c_.Kind, .string c_.Path, .string c_.To, vc_1, vc_2] 118], [bx bt_ #[vt_1] 41], ct_1] fr)) y4.Lines v2 h2 c_.Lines vc_1 hc_1 S hy5) rfl tc23 rfl rfl ?_; clear F a S
     rintro _ a w ⟨g5, l5, S, rfl⟩ F; replace S : St g5 [[bx b1 #[.i6 c_.Kind, .string c_.Path, .string c_.To, vc_1, vc_2] 118], [bx bt_ #[vt_1] 41], ct_1] fr w := S
     refine wE (ev_not rfl) F S rfl fun a F=>?_
     refine wpList_nil ?_
     replace F := F.sub (e' := [(82, .bool !y5), (5, .i6 y1.1), (1, bp bt_ 0)]) ⟨rfl, rfl, rfl, trivial⟩
     refine then_n ?_
     obtain ⟨hc6, hm⟩ | ⟨hc6, hm⟩ := ite_or hm
     ·refine wp_condT F rfl hc6 ?_
      refine wp_seq ?_
      refine wp_region_lit ?_
      refine wE (ev_assign rfl) F S rfl fun a F=>?_
      refine wpList_nil ?_
      refine then_n ?_
      refine wp_ret ?_
      refine then_r ?_
      refine inb_r ?_
      refine then_r ?_
      obtain rfl := sinj hm
      refine post_r _ F rfl (ar_cons (resT rfl) ar_nil) ?_
      replace S : St g5 [[bx bt_ #[vt_1] 41], ct_1] fr w := St.tail [[bx bt_ #[vt_1] 41], ct_1] _ ((S.frontC 2 rfl).frontC 2 rfl)
      exact ⟨_, rfl, g5, vt_1, ct_1, l5, S, (ht_1.mono l5), rfl⟩
     ·refine wp_condF F rfl hc6 ?_
      refine wp_skip ?_
      refine then_n ?_
      refine wp_region_lit ?_
      refine wE (ev_move rfl) F S rfl fun a F=>?_
      refine wE (ev_move rfl) F S rfl fun a F=>?_
      refine wE (ev_nil rfl) F S rfl fun a F=>?_
      refine wE (ev_fieldAddr' tu41 tf41_0 (z := 0) ts39 rfl ⟨_, rfl⟩ rfl) F S rfl fun a F=>?_
      refine wE (ev_load1 tu39 rfl rfl (box_ptr (cells := [vt_1]) 1 rfl 0 rfl (lb rfl))) F S rfl fun a F=>?_
      refine wE (ev_move rfl) F S rfl fun a F=>?_
      refine wE (ev_move rfl) F S rfl fun a F=>?_
      obtain ⟨z1, hz1, hm⟩ := bind_some hm
      refine wE (ev_int rfl rfl (bo_add hz1)) F S rfl fun a F=>?_
      replace S : St g5 [ct_1, [bx b1 #[.i6 c_.Kind, .string c_.Path, .string c_.To, vc_1, vc_2] 118], [bx bt_ #[vt_1] 41]] fr w := (((S.frontC 1 rfl).frontC 1 rfl).frontC 4 rfl)
      obtain ⟨y6, hy6, hm⟩ := bind_some hm
      refine wl_call0 (wn rfl) rfl F rfl (slices_Delete_48_ok (fr := (fl [[bx b1 #[.i6 c_.Kind, .string c_.Path, .string c_.To, vc_1, vc_2] 118], [bx bt_ #[vt_1] 41]] fr)) t_.Files vt_1 ct_1 (ht_1.mono l5) y1.1 z1 S hy6) rfl tc78 rfl rfl ?_; clear F a S
      rintro _ a w ⟨g6, v4, c3, l6, S, h4, rfl⟩ F; replace S : St g6 [c3, [bx b1 #[.i6 c_.Kind, .string c_.Path, .string c_.To, vc_1, vc_2] 118], [bx bt_ #[vt_1] 41]] fr w := S
      refine wE (ev_nil rfl) F S rfl fun a F=>?_
      refine wE (ev_fieldAddr' tu41 tf41_0 (z := 0) ts39 rfl ⟨_, rfl⟩ rfl) F S rfl fun a F=>?_
      refine wl_storeC (wn rfl) rfl F S rfl rfl (vs := [v4]) (OwnS.cl h4) ts39 (one_cons (OwnS.one h4) one_nil) (k := 2) rfl (lb rfl) (c' := #[v4]) rfl rfl ?_; clear S; intro w S
      refine wpList_nil ?_
      refine inb_n ?_
      refine then_n ?_
      replace S : St g6 [[bx bt_ #[v4] 41], c3] fr w := St.tail [[bx bt_ #[v4] 41], c3] _ ((S.frontC 0 rfl).frontC 3 rfl)
      exact ⟨y6, v4, c3, g6, F.sub ⟨rfl, trivial⟩, (l5.trans l6), S, h4, hm⟩
    ·refine wp_condF F rfl hc5 ?_
     refine wp_seq ?_
     refine wp_region_lit ?_
     refine wE (ev_int rfl rfl (bo_eql _ _ _ _)) F S rfl fun a F=>?_
     refine wE (ev_assign rfl) F S rfl fun a F=>?_
     refine wpList_nil ?_
     refine then_n ?_
     obtain ⟨hc7, hm⟩ | ⟨hc7, hm⟩ := ite_or hm
     ·refine wp_condT F rfl hc7 ?_
      refine wp_seq ?_
      refine wp_seq ?_
      refine wp_quiet mo (by kernel_rfl) S ?_
      refine wq_ev (wn rfl) (ev_move rfl) F rfl rfl ?_; clear F a; intro a F
      refine wq_ev (wn rfl) (ev_nil rfl) F rfl rfl ?_; clear F a; intro a F
      refine wq_ev (wn rfl) (ev_fieldAddr' tu41 tf41_0 (z := 0) ts39 rfl ⟨_, rfl⟩ rfl) F rfl rfl ?_; clear F a; intro a F
      refine wq_ev (wn rfl) (ev_load1 tu39 rfl rfl (box_ptr (cells := [vt_1]) 1 rfl 0 rfl (lb rfl))) F rfl rfl ?_; clear F a; intro a F
      refine wq_ev (wn rfl) (ev_fieldAddr' tu118 tf118_2 (z := 0) ts9 rfl ⟨_, rfl⟩ rfl) F rfl rfl ?_; clear F a; intro a F
      refine wq_ev (wn rfl) (ev_load1 tu9 rfl rfl (box_ptr (cells := [.string c_.To]) 0 rfl 2 rfl (lb rfl))) F rfl rfl ?_; clear F a; intro a F
      refine wq_ev (wn rfl) (ev_move rfl) F rfl rfl ?_; clear F a; intro a F
      obtain ⟨y7, hy7, hm⟩ := bind_some hm
      refine wq_call (wn rfl) rfl (xs := [.tmp 99, .tmp 101, .tmp 102]) (vs := [vt_1, .string c_.To, .i6 y1.1]) (cap := []) F rfl rfl tc61 (v := .bool y7) (fun w S => by replace S : St g [ct_1, [bx b1 #[.i6 c_.Kind, .string c_.Path, .string c_.To, vc_1, vc_2] 118], [bx bt_ #[vt_1] 41]] fr w := (St.tail [ct_1, [bx b1 #[.i6 c_.Kind, .string c_.Path, .string c_.To, vc_1, vc_2] 118], [bx bt_ #[vt_1] 41]] _ (((S.frontC 1 rfl).frontC 1 rfl).frontC 4 rfl)); exact (treepatch_Clash_okb (g := g) (fr := (fl [[bx b1 #[.i6 c_.Kind, .string c_.Path, .string c_.To, vc_1, vc_2] 118], [bx bt_ #[vt_1] 41]] fr)) (w := w) t_.Files vt_1 ct_1 ht_1 c_.To y1.1 S hy7).mono (by rintro en w' ⟨_, rfl, g2, l2, S2, rfl⟩; have S3 : St g [ct_1, [bx b1 #[.i6 c_.Kind, .string c_.Path, .string c_.To, vc_1, vc_2] 118], [bx bt_ #[vt_1] 41]] fr w' := S2.weak l2; exact ⟨rfl, (St.tail [[bx b1 #[.i6 c_.Kind, .string c_.Path, .string c_.To, vc_1, vc_2] 118], [bx bt_ #[vt_1] 41], ct_1] _ (((S3.frontC 0 rfl).frontC 3 rfl).frontC 3 rfl))⟩)) rfl rfl ?_; clear F a; intro a F
      refine wq_nil ?_; clear S; intro w S
      replace F := F.sub (e' := [(103, .bool y7), (7, v2), (5, .i6 y1.1), (2, bp b1 0), (1, bp bt_ 0)]) ⟨rfl, rfl, rfl, rfl, rfl, trivial⟩
      refine then_n ?_
      obtain ⟨hc8, hm⟩ | ⟨hc8, hm⟩ := ite_or hm
      ·refine wp_condT F rfl hc8 ?_
       refine wp_seq ?_
       refine wp_region_lit ?_
       refine wE (ev_assign rfl) F S rfl fun a F=>?_
       refine wpList_nil ?_
       refine then_n ?_
       refine wp_ret ?_
       refine then_r ?_
       refine inb_r ?_
       refine then_r ?_
       obtain rfl := sinj hm
       refine post_r _ F rfl (ar_cons (resT rfl) ar_nil) ?_
       replace S : St g [[bx bt_ #[vt_1] 41], ct_1] fr w := St.tail [[bx bt_ #[vt_1] 41], ct_1] _ ((S.frontC 2 rfl).frontC 2 rfl)
       exact ⟨_, rfl, g, vt_1, ct_1, (Le.refl _), S, ht_1, rfl⟩
      ·refine wp_condF F rfl hc8 ?_
       refine wp_skip ?_
       refine then_n ?_
       refine wp_seq ?_
       refine wp_region_lit ?_
       refine wE (ev_move rfl) F S rfl fun a F=>?_
       refine wE (ev_move rfl) F S rfl fun a F=>?_
       refine wE (ev_nil rfl) F S rfl fun a F=>?_
       refine wE (ev_fieldAddr' tu41 tf41_0 (z := 0) ts39 rfl ⟨_, rfl⟩ rfl) F S rfl fun a F=>?_
       refine wE (ev_load1 tu39 rfl rfl (box_ptr (cells := [vt_1]) 1 rfl 0 rfl (lb rfl))) F S rfl fun a F=>?_
       refine wE (ev_move rfl) F S rfl fun a F=>?_
       refine wE (ev_move rfl) F S rfl fun a F=>?_
       obtain ⟨z2, hz2, hm⟩ := bind_some hm
       refine wE (ev_int rfl rfl (bo_add hz2)) F S rfl fun a F=>?_
       replace S : St g [ct_1, [bx b1 #[.i6 c_.Kind, .string c_.Path, .string c_.To, vc_1, vc_2] 118], [bx bt_ #[vt_1] 41]] fr w := (((S.frontC 1 rfl).frontC 1 rfl).frontC 4 rfl)
       obtain ⟨y8, hy8, hm⟩ := bind_some hm
       refine wl_call0 (wn rfl) rfl F rfl (slices_Delete_48_ok (fr := (fl [[bx b1 #[.i6 c_.Kind, .string c_.Path, .string c_.To, vc_1, vc_2] 118], [bx bt_ #[vt_1] 41]] fr)) t_.Files vt_1 ct_1 ht_1 y1.1 z2 S hy8) rfl tc78 rfl rfl ?_; clear F a S
       rintro _ a w ⟨g8, v5, c4, l8, S, h5, rfl⟩ F; replace S : St g8 [c4, [bx b1 #[.i6 c_.Kind, .string c_.Path, .string c_.To, vc_1, vc_2] 118], [bx bt_ #[vt_1] 41]] fr w := S
       refine wE (ev_nil rfl) F S rfl fun a F=>?_
       refine wE (ev_fieldAddr' tu41 tf41_0 (z := 0) ts39 rfl ⟨_, rfl⟩ rfl) F S rfl fun a F=>?_
       refine wl_storeC (wn rfl) rfl F S rfl rfl (vs := [v5]) (OwnS.cl h5) ts39 (one_cons (OwnS.one h5) one_nil) (k := 2) rfl (lb rfl) (c' := #[v5]) rfl rfl ?_; clear S; intro w S
       refine wpList_nil ?_
       refine then_n ?_
       refine wp_region_lit ?_
       refine wE (ev_move rfl) F S rfl fun a F=>?_
       refine wE (ev_fieldAddr' tu118 tf118_2 (z := 0) ts9 rfl ⟨_, rfl⟩ rfl) F S rfl fun a F=>?_
       refine wE (ev_load1 tu9 rfl rfl (box_ptr (cells := [.string c_.To]) 1 rfl 2 rfl (lb rfl))) F S rfl fun a F=>?_
       refine wE (ev_move rfl) F S rfl fun a F=>?_
       replace S : St g8 [[bx bt_ #[v5] 41], c4, [bx b1 #[.i6 c_.Kind, .string c_.Path, .string c_.To, vc_1, vc_2] 118]] fr w := (((S.frontC 1 rfl).frontC 1 rfl).frontC 4 rfl)
       obtain ⟨y9, hy9, hm⟩ := bind_some hm
       refine wl_call0 (wn rfl) rfl F rfl (treepatch_Put_ok (fr := (fl [[bx b1 #[.i6 c_.Kind, .string c_.Path, .string c_.To, vc_1, vc_2] 118]] fr)) bt_ ({ Files := y8 } : FileTree) v5 c4 h5 c_.To y4.Lines v2 (h2.mono l8) S hy9) rfl tc77 rfl rfl ?_; clear F a S
       rintro _ a w ⟨g9, v6, c5, l9, S, h6, rfl⟩ F; replace S : St g9 [[bx bt_ #[v6] 41], c5, [bx b1 #[.i6 c_.Kind, .string c_.Path, .string c_.To, vc_1, vc_2] 118]] fr w := S
       refine wpList_nil ?_
       refine inb_n ?_
       refine then_n ?_
       replace S : St g9 [[bx bt_ #[v6] 41], c5] fr w := St.tail [[bx bt_ #[v6] 41], c5] _ ((S.frontC 1 rfl).frontC 1 rfl)
       exact ⟨y9.Files, v6, c5, g9, F.sub ⟨rfl, trivial⟩, (l8.trans l9), S, h6, hm⟩
     ·refine wp_condF F rfl hc7 ?_
      refine wp_seq ?_
      refine wp_region_lit ?_
      refine wE (ev_fieldAddr' tu118 tf118_4 (z := 0) ts55 rfl ⟨_, rfl⟩ rfl) F S rfl fun a F=>?_
      refine wE (ev_loadA tu55 rfl (cs := [vc_2]) ts55 rfl (box_ptr (cells := [vc_2]) 0 rfl 4 rfl (lb rfl))) F S rfl fun a F=>?_
      refine wE (ev_move rfl) F S rfl fun a F=>?_
      obtain ⟨y10, hy10, hm⟩ := bind_some hm
      refine wl_call0 (wn rfl) rfl F rfl (textpatch_Apply_ok (fr := (fl [[bx b1 #[.i6 c_.Kind, .string c_.Path, .string c_.To, vc_1, vc_2] 118], [bx bt_ #[vt_1] 41], ct_1] fr)) c_.Patch vc_2 hc_2 y4.Lines v2 h2 S hy10) rfl tc27 rfl rfl ?_; clear F a S
      rintro _ a w ⟨g10, v7, c6, l10, S, h7, rfl⟩ F; replace S : St g10 [c6, [bx b1 #[.i6 c_.Kind, .string c_.Path, .string c_.To, vc_1, vc_2] 118], [bx bt_ #[vt_1] 41], ct_1] fr w := S
      refine wE (ev_move rfl) F S rfl fun a F=>?_
      refine wE (ev_extract rfl rfl) F S rfl fun a F=>?_
      refine wE (ev_extract rfl rfl) F S rfl fun a F=>?_
      refine wl_alloc (wn rfl) rfl tz25 (cs := [.i6 0, .i6 0]) rfl F S rfl rfl ?_; clear F a S; rintro b2 a w F S
      refine wE (ev_assign rfl) F S rfl fun a F=>?_
      refine wl_storeC (wn rfl) rfl F S rfl rfl (vs := [.i6 y10.2.Code, .i6 y10.2.Index]) rfl ts25 (one_cons rfl (one_cons rfl one_nil)) (k := 0) rfl (lb rfl) (c' := #[.i6 y10.2.Code, .i6 y10.2.Index]) rfl rfl ?_; clear S; intro w S
      refine wpList_nil ?_
      replace F := F.sub (e' := [(8, v7), (9, bp b2 0), (5, .i6 y1.1), (1, bp bt_ 0)]) ⟨rfl, rfl, rfl, rfl, trivial⟩
      refine then_n ?_
      refine wp_seq ?_
      refine wp_seq ?_
      refine wp_region_lit ?_
      refine wE (ev_loadA tu25 rfl (cs := [.i6 y10.2.Code, .i6 y10.2.Index]) ts25 rfl (box_ptr (cells := [.i6 y10.2.Code, .i6 y10.2.Index]) 0 rfl 0 rfl (lb rfl))) F S rfl fun a F=>?_
      refine wE (ev_build (parts := []) (vs := []) rfl (fun w => tb25_  w)) F S rfl fun a F=>?_
      refine wE (ev_neS tu25 tqa25 tqb25 tqc25 (xs := [.i6 y10.2.Code, .i6 y10.2.Index]) (ys := [.i6 0, .i6 0]) rfl rfl ⟨_, _, rfl, by decide, ⟨_, _, rfl, rfl, leaf_int tu3⟩, ⟨_, _, rfl, by decide, ⟨_, _, rfl, rfl, leaf_int tu3⟩, rfl⟩⟩) F S rfl fun a F=>?_
      refine wpList_nil ?_
      refine then_n ?_
      obtain ⟨hc9, hm⟩ | ⟨hc9, hm⟩ := ite_or hm
      ·refine wp_condT F rfl hc9 ?_
       refine wp_seq ?_
       refine wp_region_lit ?_
       refine wE (ev_fieldAddr' tu25 tf25_0 (z := 0) ts3 rfl ⟨_, rfl⟩ rfl) F S rfl fun a F=>?_
       refine wE (ev_load1 tu3 rfl rfl (box_ptr (cells := [.i6 y10.2.Code]) 0 rfl 0 rfl (lb rfl))) F S rfl fun a F=>?_
       refine wE (ev_assign rfl) F S rfl fun a F=>?_
       refine wpList_nil ?_
       refine then_n ?_
       refine wp_ret ?_
       refine then_r ?_
       refine inb_r ?_
       refine then_r ?_
       obtain rfl := sinj hm
       refine post_r _ F rfl (ar_cons (resT rfl) ar_nil) ?_
       replace S : St g10 [[bx bt_ #[vt_1] 41], ct_1] fr w := St.tail [[bx bt_ #[vt_1] 41], ct_1] _ ((S.frontC 4 rfl).frontC 4 rfl)
       exact ⟨_, rfl, g10, vt_1, ct_1, l10, S, (ht_1.mono l10), rfl⟩
      ·refine wp_condF F rfl hc9 ?_
       refine wp_skip ?_
       refine then_n ?_
       refine wp_region_lit ?_
       refine wE (ev_move rfl) F S rfl fun a F=>?_
       refine wE (ev_nil rfl) F S rfl fun a F=>?_
       refine wE (ev_fieldAddr' tu41 tf41_0 (z := 0) ts39 rfl ⟨_, rfl⟩ rfl) F S rfl fun a F=>?_
       refine wE (ev_load1 tu39 rfl rfl (box_ptr (cells := [vt_1]) 3 rfl 0 rfl (lb rfl))) F S rfl fun a F=>?_
       refine wE (ev_move rfl) F S rfl fun a F=>?_
       refine wE (ev_move rfl) F S rfl fun a F=>?_
       obtain ⟨y11, hy11, hm⟩ := bind_some hm
       refine wE (ev_idxO (ht_1.mono l10) hy11 tu39 ts48 rfl rfl) F S rfl fun a F=>?_
       refine wE (ev_fieldAddr' tu48 tf48_1 (z := 0) ts22 rfl (elemO_ptr (ht_1.mono l10) hy11) rfl) F S rfl fun a F=>?_
       obtain ⟨g11, l11, S, h8⟩ : ∃ gz, Le g10 gz ∧ St gz [[bx b2 #[.i6 y10.2.Code, .i6 y10.2.Index] 25], [bx b1 #[.i6 c_.Kind, .string c_.Path, .string c_.To, vc_1, vc_2] 118], [bx bt_ #[vt_1] 41], ct_1] fr w ∧ RepSl gz y10.1 v7 := ⟨_, Le.add _ _, S.freeze 1 rfl, OwnS.freeze (S.front 1 rfl) h7⟩
       obtain ⟨y12, hy12, hm⟩ := bind_some hm
       refine wl_storeE (z' := ({ Path := y11.Path, Lines := y10.1 } : File)) 1 (wn rfl) rfl F S (ht_1.mono (l10.trans l11)) hy11 rfl rfl rfl (us := [v7]) (RepSl.cl h8) ts22 (one_cons h8.one one_nil) (k := 3) rfl (lb rfl) (fun cs hcs => by obtain ⟨v8, rfl, h10⟩ := rep_File hcs; exact (rep_File_mk (x := ({ Path := y11.Path, Lines := y10.1 } : File)) h8)) rfl ?_; clear S
       rintro c7 w h9 S; replace S : St g11 [[bx b2 #[.i6 y10.2.Code, .i6 y10.2.Index] 25], [bx b1 #[.i6 c_.Kind, .string c_.Path, .string c_.To, vc_1, vc_2] 118], [bx bt_ #[vt_1] 41], c7] fr w := S; replace h9 : OwnS g11 y12 vt_1 c7 := sinj hy12 ▸ h9
       refine wpList_nil ?_
       refine inb_n ?_
       refine then_n ?_
       replace S : St g11 [[bx bt_ #[vt_1] 41], c7] fr w := St.tail [[bx bt_ #[vt_1] 41], c7] _ ((S.frontC 3 rfl).frontC 3 rfl)
       exact ⟨y12, vt_1, c7, g11, F.sub ⟨rfl, trivial⟩, (l10.trans l11), S, h9, hm⟩
   ·clear F S hm; rintro a w ⟨x1, v3, c2, g4, F, l4, S, h3, hm⟩
    refine wp_seq ?_
    refine wp_region_lit ?_
    refine wE (ev_assign rfl) F S rfl fun a F=>?_
    refine wpList_nil ?_
    refine then_n ?_
    refine wp_ret ?_
    obtain rfl := sinj hm
    refine post_r _ F rfl (ar_cons (resT rfl) ar_nil) ?_
    exact ⟨_, rfl, g4, v3, c2, l4, S, h3, rfl⟩

theorem treepatch_Apply_ok {g : Gh} {fr : Hl} {w : World} {r : FileTree × Fault} (p_ : TreePatch) (vp_1 : Value) (hp_1 : RepSl g p_.Changes vp_1) (t_ : FileTree) (vt_1 : Value) (ht_1 : RepSl g t_.Files vt_1) (S : St g [] fr w) (hm : treepatch_Apply p_ t_ = some r) :
  Calls Tryd.prog 28 [.agg #[vp_1], .agg #[vt_1]].toArray w (fun en w' => ∃ v, en = .returned v ∧ ∃ (g' : Gh) (v1 : Value) (c1 : Hl), Le g g' ∧ St g' [c1] fr w' ∧ OwnS g' r.1.Files v1 c1 ∧ .tuple #[.agg #[v1], .agg #[.i6 r.2.Code, .i6 r.2.Index]] = v) := by
 unfold treepatch_Apply at hm
 refine calls_enter (fn := Tryd.f28) Tryd.func28 rfl Tryd.ntmps28 (lb rfl) ?_
 intro a F
 replace F : Fr 47 a [(0, .agg #[vp_1]), (1, .agg #[vt_1])] := F
 refine wp_seq ?_
 refine wp_region_lit ?_
 refine wl_boxC (wn rfl) rfl rfl rfl F S rfl rfl ?_; clear F a S; rintro b1 a w F S
 refine wl_boxC (wn rfl) rfl rfl rfl F S rfl rfl ?_; clear F a S; rintro b2 a w F S
 refine wl_alloc (wn rfl) rfl tz41 (cs := [nilS]) rfl F S rfl rfl ?_; clear F a S; rintro b3 a w F S
 refine wl_alloc (wn rfl) rfl tz25 (cs := [.i6 0, .i6 0]) rfl F S rfl rfl ?_; clear F a S; rintro b4 a w F S
 refine wpList_nil ?_
 refine then_n ?_
 refine wp_seq ?_
 refine wp_seq ?_
 refine wp_region_lit ?_
 refine wE (ev_loadA tu81 rfl (cs := [vp_1]) ts81 rfl (box_ptr (cells := [vp_1]) 3 rfl 0 rfl (lb rfl))) F S rfl fun a F=>?_
 obtain ⟨y1, hy1, hm⟩ := bind_some hm
 refine wl_call0 (wn rfl) rfl F rfl (treepatch_ValidatePatch_ok (fr := (fl [[bx b4 #[.i6 0, .i6 0] 25], [bx b3 #[nilS] 41], [bx b2 #[vt_1] 41], [bx b1 #[vp_1] 81]] fr)) p_ vp_1 hp_1 S hy1) rfl tc56 rfl rfl ?_; clear F a S
 rintro _ a w ⟨g1, l1, S, rfl⟩ F; replace S : St g1 [[bx b4 #[.i6 0, .i6 0] 25], [bx b3 #[nilS] 41], [bx b2 #[vt_1] 41], [bx b1 #[vp_1] 81]] fr w := S
 refine wl_alloc (wn rfl) rfl tz25 (cs := [.i6 0, .i6 0]) rfl F S rfl rfl ?_; clear F a S; rintro b5 a w F S
 refine wl_storeC (wn rfl) rfl F S rfl rfl (vs := [.i6 y1.Code, .i6 y1.Index]) rfl ts25 (one_cons rfl (one_cons rfl one_nil)) (k := 0) rfl (lb rfl) (c' := #[.i6 y1.Code, .i6 y1.Index]) rfl rfl ?_; clear S; intro w S
 refine wpList_nil ?_
 refine then_n ?_
 refine wp_seq ?_
 refine wp_region_lit ?_
 refine wE (ev_loadA tu25 rfl (cs := [.i6 y1.Code, .i6 y1.Index]) ts25 rfl (box_ptr (cells := [.i6 y1.Code, .i6 y1.Index]) 0 rfl 0 rfl (lb rfl))) F S rfl fun a F=>?_
 refine wE (ev_build (parts := []) (vs := []) rfl (fun w => tb25_  w)) F S rfl fun a F=>?_
 refine wE (ev_neS tu25 tqa25 tqb25 tqc25 (xs := [.i6 y1.Code, .i6 y1.Index]) (ys := [.i6 0, .i6 0]) rfl rfl ⟨_, _, rfl, by decide, ⟨_, _, rfl, rfl, leaf_int tu3⟩, ⟨_, _, rfl, by decide, ⟨_, _, rfl, rfl, leaf_int tu3⟩, rfl⟩⟩) F S rfl fun a F=>?_
 refine wpList_nil ?_
 refine then_n ?_
 obtain ⟨hc1, hm⟩ | ⟨hc1, hm⟩ := ite_or hm
 ·refine wp_condT F rfl hc1 ?_
  refine wp_seq ?_
  refine wp_dv [] mo S ?_; clear S; intro ok1 w S
  refine dv_et ok1 0 rfl (ev_build (parts := []) (vs := []) rfl (fun w => tb41_  w)) F rfl fun a F=>?_
  refine dv_ev ok1 1 rfl (ev_loadA tu25 rfl (cs := [.i6 y1.Code, .i6 y1.Index]) ts25 rfl (box_ptr (cells := [.i6 y1.Code, .i6 y1.Index]) 0 rfl 0 rfl (lb rfl))) F S rfl fun a F=>?_
  refine dv_op ok1 2 rfl [(1, .agg #[.i6 y1.Code, .i6 y1.Index])] ?_
  refine wl_storeC (wn rfl) rfl F S rfl rfl (vs := [nilS]) rfl ts41 (one_cons rfl one_nil) (k := 2) rfl (lb rfl) (c' := #[nilS]) rfl rfl ?_; clear S; intro w S
  refine dv_nx ⟨yl_ev rfl rfl (ev_loadA tu25 rfl (cs := [.i6 y1.Code, .i6 y1.Index]) ts25 rfl (box_ptr (cells := [.i6 y1.Code, .i6 y1.Index]) 0 rfl 0 rfl (lb rfl))) F S, trivial⟩ ?_
  refine dv_op ok1 3 rfl [] ?_
  refine wl_storeC (wn rfl) rfl F S rfl rfl (vs := [.i6 y1.Code, .i6 y1.Index]) rfl ts25 (one_cons rfl (one_cons rfl one_nil)) (k := 1) rfl (lb rfl) (c' := #[.i6 y1.Code, .i6 y1.Index]) rfl rfl ?_; clear S; intro w S
  refine dv_nx trivial ?_
  refine dv_fin ok1 ?_
  refine then_n ?_
  refine wp_ret ?_
  refine then_r ?_
  obtain rfl := sinj hm
  replace S : St g1 [[], [bx b5 #[.i6 y1.Code, .i6 y1.Index] 25], [bx b4 #[.i6 y1.Code, .i6 y1.Index] 25], [bx b3 #[nilS] 41], [bx b2 #[vt_1] 41], [bx b1 #[vp_1] 81]] fr w := S
  refine post_r _ F rfl (ar_cons (resA rfl tu41 rfl (box_ptr (cells := [nilS]) 3 rfl 0 rfl (lb rfl) w S) ts41) (ar_cons (resA rfl tu25 rfl (box_ptr (cells := [.i6 y1.Code, .i6 y1.Index]) 2 rfl 0 rfl (lb rfl) w S) ts25) ar_nil)) ?_
  replace S : St g1 [[]] fr w := St.tail [[]] _ (S.frontC 0 rfl)
  exact ⟨_, rfl, g1, (nilS), [], l1, S, (OwnS.nil _), rfl⟩
 ·refine wp_condF F rfl hc1 ?_
  refine wp_skip ?_
  refine then_n ?_
  refine wp_seq ?_
  refine wp_seq ?_
  refine wp_region_lit ?_
  refine wE (ev_loadA tu41 rfl (cs := [vt_1]) ts41 rfl (box_ptr (cells := [vt_1]) 3 rfl 0 rfl (lb rfl))) F S rfl fun a F=>?_
  obtain ⟨y2, hy2, hm⟩ := bind_some hm
  refine wl_call0 (wn rfl) rfl F rfl (treepatch_Second_ok (fr := (fl [[bx b5 #[.i6 y1.Code, .i6 y1.Index] 25], [bx b4 #[.i6 0, .i6 0] 25], [bx b3 #[nilS] 41], [bx b2 #[vt_1] 41], [bx b1 #[vp_1] 81]] fr)) t_ vt_1 (ht_1.mono l1) (-2) S hy2) rfl tc34 rfl rfl ?_; clear F a S
  rintro _ a w ⟨g2, l2, S, rfl⟩ F; replace S : St g2 [[bx b5 #[.i6 y1.Code, .i6 y1.Index] 25], [bx b4 #[.i6 0, .i6 0] 25], [bx b3 #[nilS] 41], [bx b2 #[vt_1] 41], [bx b1 #[vp_1] 81]] fr w := S
  refine wl_alloc (wn rfl) rfl tz25 (cs := [.i6 0, .i6 0]) rfl F S rfl rfl ?_; clear F a S; rintro b6 a w F S
  refine wl_storeC (wn rfl) rfl F S rfl rfl (vs := [.i6 y2.Code, .i6 y2.Index]) rfl ts25 (one_cons rfl (one_cons rfl one_nil)) (k := 0) rfl (lb rfl) (c' := #[.i6 y2.Code, .i6 y2.Index]) rfl rfl ?_; clear S; intro w S
  refine wpList_nil ?_
  refine then_n ?_
  refine wp_seq ?_
  refine wp_region_lit ?_
  refine wE (ev_loadA tu25 rfl (cs := [.i6 y2.Code, .i6 y2.Index]) ts25 rfl (box_ptr (cells := [.i6 y2.Code, .i6 y2.Index]) 0 rfl 0 rfl (lb rfl))) F S rfl fun a F=>?_
  refine wE (ev_build (parts := []) (vs := []) rfl (fun w => tb25_  w)) F S rfl fun a F=>?_
  refine wE (ev_neS tu25 tqa25 tqb25 tqc25 (xs := [.i6 y2.Code, .i6 y2.Index]) (ys := [.i6 0, .i6 0]) rfl rfl ⟨_, _, rfl, by decide, ⟨_, _, rfl, rfl, leaf_int tu3⟩, ⟨_, _, rfl, by decide, ⟨_, _, rfl, rfl, leaf_int tu3⟩, rfl⟩⟩) F S rfl fun a F=>?_
  refine wpList_nil ?_
  refine then_n ?_
  obtain ⟨hc2, hm⟩ | ⟨hc2, hm⟩ := ite_or hm
  ·refine wp_condT F rfl hc2 ?_
   refine wp_seq ?_
   refine wp_dv [] mo S ?_; clear S; intro ok2 w S
   refine dv_et ok2 0 rfl (ev_build (parts := []) (vs := []) rfl (fun w => tb41_  w)) F rfl fun a F=>?_
   refine dv_ev ok2 1 rfl (ev_loadA tu25 rfl (cs := [.i6 y2.Code, .i6 y2.Index]) ts25 rfl (box_ptr (cells := [.i6 y2.Code, .i6 y2.Index]) 0 rfl 0 rfl (lb rfl))) F S rfl fun a F=>?_
   refine dv_op ok2 2 rfl [(1, .agg #[.i6 y2.Code, .i6 y2.Index])] ?_
   refine wl_storeC (wn rfl) rfl F S rfl rfl (vs := [nilS]) rfl ts41 (one_cons rfl one_nil) (k := 3) rfl (lb rfl) (c' := #[nilS]) rfl rfl ?_; clear S; intro w S
   refine dv_nx ⟨yl_ev rfl rfl (ev_loadA tu25 rfl (cs := [.i6 y2.Code, .i6 y2.Index]) ts25 rfl (box_ptr (cells := [.i6 y2.Code, .i6 y2.Index]) 0 rfl 0 rfl (lb rfl))) F S, trivial⟩ ?_
   refine dv_op ok2 3 rfl [] ?_
   refine wl_storeC (wn rfl) rfl F S rfl rfl (vs := [.i6 y2.Code, .i6 y2.Index]) rfl ts25 (one_cons rfl (one_cons rfl one_nil)) (k := 2) rfl (lb rfl) (c' := #[.i6 y2.Code, .i6 y2.Index]) rfl rfl ?_; clear S; intro w S
   refine dv_nx trivial ?_
   refine dv_fin ok2 ?_
   refine then_n ?_
   refine wp_ret ?_
   refine then_r ?_
   obtain rfl := sinj hm
   replace S : St g2 [[], [bx b6 #[.i6 y2.Code, .i6 y2.Index] 25], [bx b5 #[.i6 y1.Code, .i6 y1.Index] 25], [bx b4 #[.i6 y2.Code, .i6 y2.Index] 25], [bx b3 #[nilS] 41], [bx b2 #[vt_1] 41], [bx b1 #[vp_1] 81]] fr w := S
   refine post_r _ F rfl (ar_cons (resA rfl tu41 rfl (box_ptr (cells := [nilS]) 4 rfl 0 rfl (lb rfl) w S) ts41) (ar_cons (resA rfl tu25 rfl (box_ptr (cells := [.i6 y2.Code, .i6 y2.Index]) 3 rfl 0 rfl (lb rfl) w S) ts25) ar_nil)) ?_
   replace S : St g2 [[]] fr w := St.tail [[]] _ (S.frontC 0 rfl)
   exact ⟨_, rfl, g2, (nilS), [], (l1.trans l2), S, (OwnS.nil _), rfl⟩
  ·refine wp_condF F rfl hc2 ?_
   refine wp_skip ?_
   refine then_n ?_
   refine wp_seq ?_
   refine wp_region_lit ?_
   refine wE (ev_loadA tu41 rfl (cs := [vt_1]) ts41 rfl (box_ptr (cells := [vt_1]) 4 rfl 0 rfl (lb rfl))) F S rfl fun a F=>?_
   obtain ⟨y3, hy3, hm⟩ := bind_some hm
   refine wl_call0 (wn rfl) rfl F rfl (treepatch_CopyTree_ok (fr := (fl [[bx b6 #[.i6 y2.Code, .i6 y2.Index] 25], [bx b5 #[.i6 y1.Code, .i6 y1.Index] 25], [bx b4 #[.i6 0, .i6 0] 25], [bx b3 #[nilS] 41], [bx b2 #[vt_1] 41], [bx b1 #[vp_1] 81]] fr)) t_ vt_1 (ht_1.mono (l1.trans l2)) S hy3) rfl tc57 rfl rfl ?_; clear F a S
   rintro _ a w ⟨g3, v1, c1, l3, S, h1, rfl⟩ F; replace S : St g3 [c1, [bx b6 #[.i6 y2.Code, .i6 y2.Index] 25], [bx b5 #[.i6 y1.Code, .i6 y1.Index] 25], [bx b4 #[.i6 0, .i6 0] 25], [bx b3 #[nilS] 41], [bx b2 #[vt_1] 41], [bx b1 #[vp_1] 81]] fr w := S
   refine wl_alloc (wn rfl) rfl tz41 (cs := [nilS]) rfl F S rfl rfl ?_; clear F a S; rintro b7 a w F S
   refine wl_storeC (wn rfl) rfl F S rfl rfl (vs := [v1]) rfl ts41 (one_cons (OwnS.one h1) one_nil) (k := 0) rfl (lb rfl) (c' := #[v1]) rfl rfl ?_; clear S; intro w S
   refine wpList_nil ?_
   refine then_n ?_
   refine wp_cut (fun a w => ∃ (x1 : List File) (v2 : Value) (c2 : Hl) (g4 : Gh), Fr 47 a [(8, bp b7 0), (5, bp b4 0), (4, bp b3 0)] ∧ Le g3 g4 ∧ St g4 [[bx b7 #[v2] 41], [bx b4 #[.i6 0, .i6 0] 25], [bx b3 #[nilS] 41], c2] fr w ∧ OwnS g4 x1 v2 c2 ∧ treepatch_Apply.j1 x1 = some r) ?_ ?_
   ·refine wp_seq ?_
    refine wp_region_lit ?_
    refine wE (ev_fieldAddr' tu81 tf81_0 (z := 0) ts79 rfl ⟨_, rfl⟩ rfl) F S rfl fun a F=>?_
    refine wE (ev_load1 tu79 rfl rfl (box_ptr (cells := [vp_1]) 7 rfl 0 rfl (lb rfl))) F S rfl fun a F=>?_
    refine wE (ev_lenSh hp_1 rfl tu79) F S rfl fun a F=>?_
    refine wE (ev_move rfl) F S rfl fun a F=>?_
    refine wpList_nil ?_
    refine then_n ?_
    refine wp_block ?_
    obtain ⟨r1, hr1, hm⟩ := bind_some hm
    have hmo1 := hm; clear hm
    refine wp_iter (σ := Int × (List File)) (ρ := (FileTree × Fault) ⊕ (List File)) (m := fun s => treepatch_Apply.l1 p_ s.1 s.2) (I := fun s a w => match s with | (x2, x3) => ∃ (v3 : Value) (c3 : Hl) (g5 : Gh), Fr 47 a [(31, .i6 x2), (30, .i6 (p_.Changes.length : Int)), (29, vp_1), (8, bp b7 0), (5, bp b4 0), (4, bp b3 0)] ∧ Le g3 g5 ∧ St g5 [[bx b7 #[v3] 41], [bx b4 #[.i6 0, .i6 0] 25], [bx b3 #[nilS] 41], c3] fr w ∧ OwnS g5 x3 v3 c3) hr1 ?_ ?_
    ·dsimp only
     replace S : St g3 [[bx b7 #[v1] 41], [bx b4 #[.i6 0, .i6 0] 25], [bx b3 #[nilS] 41], c1] fr w := St.tail [[bx b7 #[v1] 41], [bx b4 #[.i6 0, .i6 0] 25], [bx b3 #[nilS] 41], c1] _ ((((S.frontC 1 rfl).frontC 6 rfl).frontC 6 rfl).frontC 3 rfl)
     exact ⟨v1, c1, g3, F.sub ⟨rfl, rfl, rfl, rfl, rfl, rfl, trivial⟩, (Le.refl _), S, h1⟩
    ·clear F S; rintro ⟨x2, x3⟩ a w x4 ⟨v3, c3, g5, F, l5, S, h3⟩ hx1 hfin1
     have hm : treepatch_Apply.l1 p_ x2 x3 = some x4 := hx1; clear hx1
     unfold treepatch_Apply.l1 at hm
     refine wp_seq ?_
     refine wp_region_lit ?_
     refine wE (ev_int rfl rfl (bo_lss _ _ _ _)) F S rfl fun a F=>?_
     refine wpList_nil ?_
     refine then_n ?_
     refine wp_seq ?_
     obtain ⟨hc3, hm⟩ | ⟨hc3, hm⟩ := ite_or hm
     ·refine wp_condT F rfl hc3 ?_
      refine wp_skip ?_
      refine then_n ?_
      refine wp_seq ?_
      refine wp_block ?_
      refine wp_seq ?_
      refine wp_region_lit ?_
      refine wE (ev_move rfl) F S rfl fun a F=>?_
      obtain ⟨y4, hy4, hm⟩ := bind_some hm
      obtain ⟨cs1, hr2, hp1⟩ := elemS (hp_1.mono (((l1.trans l2).trans l3).trans l5)) hy4
      obtain ⟨v4, v5, rfl, h4, h5⟩ := rep_TreeChange hr2
      refine wE (ev_idxS (hp_1.mono (((l1.trans l2).trans l3).trans l5)) hy4 tu79 ts118 rfl rfl) F S rfl fun a F=>?_
      refine wE (ev_loadA tu118 rfl (cs := [.i6 y4.Kind, .string y4.Path, .string y4.To, v4, v5]) ts118 rfl (ptr_mono (cks := [[bx b7 #[v3] 41], [bx b4 #[.i6 0, .i6 0] 25], [bx b3 #[nilS] 41], c3]) (fr := fr) hp1 (Le.refl _))) F S rfl fun a F=>?_
      refine wl_alloc (wn rfl) rfl tz118 (cs := [.i6 0, .string ByteArray.empty, .string ByteArray.empty, nilS, nilS]) rfl F S rfl rfl ?_; clear F a S; rintro b8 a w F S
      refine wE (ev_assign rfl) F S rfl fun a F=>?_
      refine wl_storeC (wn rfl) rfl F S rfl rfl (vs := [.i6 y4.Kind, .string y4.Path, .string y4.To, v4, v5]) rfl ts118 (one_cons rfl (one_cons rfl (one_cons rfl (one_cons h4.one (one_cons h5.one one_nil))))) (k := 0) rfl (lb rfl) (c' := #[.i6 y4.Kind, .string y4.Path, .string y4.To, v4, v5]) rfl rfl ?_; clear S; intro w S
      refine wpList_nil ?_
      refine then_n ?_
      refine wp_seq ?_
      refine wp_region_lit ?_
      refine wE (ev_loadA tu118 rfl (cs := [.i6 y4.Kind, .string y4.Path, .string y4.To, v4, v5]) ts118 rfl (box_ptr (cells := [.i6 y4.Kind, .string y4.Path, .string y4.To, v4, v5]) 0 rfl 0 rfl (lb rfl))) F S rfl fun a F=>?_
      replace S : St g5 [[bx b7 #[v3] 41], c3, [bx b8 #[.i6 y4.Kind, .string y4.Path, .string y4.To, v4, v5] 118], [bx b4 #[.i6 0, .i6 0] 25], [bx b3 #[nilS] 41]] fr w := (((((S.frontC 3 rfl).frontC 3 rfl).frontC 2 rfl).frontC 7 rfl).frontC 5 rfl)
      obtain ⟨y5, hy5, hm⟩ := bind_some hm
      refine wl_call0 (wn rfl) rfl F rfl (treepatch_make1_ok (fr := (fl [[bx b8 #[.i6 y4.Kind, .string y4.Path, .string y4.To, v4, v5] 118], [bx b4 #[.i6 0, .i6 0] 25], [bx b3 #[nilS] 41]] fr)) y4 v4 h4 v5 h5 b7 ({ Files := x3 } : FileTree) v3 c3 h3 S hy5) rfl tc58 rfl rfl ?_; clear F a S
      rintro _ a w ⟨g6, v6, c4, l6, S, h6, rfl⟩ F; replace S : St g6 [[bx b7 #[v6] 41], c4, [bx b8 #[.i6 y4.Kind, .string y4.Path, .string y4.To, v4, v5] 118], [bx b4 #[.i6 0, .i6 0] 25], [bx b3 #[nilS] 41]] fr w := S
      refine wE (ev_assign rfl) F S rfl fun a F=>?_
      refine wpList_nil ?_
      refine then_n ?_
      refine wp_seq ?_
      refine wp_region_lit ?_
      refine wE (ev_move rfl) F S rfl fun a F=>?_
      refine wE (ev_int rfl rfl (bo_neq _ _ _ _)) F S rfl fun a F=>?_
      refine wpList_nil ?_
      refine then_n ?_
      obtain ⟨hc4, hm⟩ | ⟨hc4, hm⟩ := ite_or hm
      ·refine wp_condT F rfl hc4 ?_
       refine wp_seq ?_
       refine wp_region_lit ?_
       refine wE (ev_build (parts := []) (vs := []) rfl (fun w => tb41_  w)) F S rfl fun a F=>?_
       refine wE (ev_move rfl) F S rfl fun a F=>?_
       refine wE (ev_move rfl) F S rfl fun a F=>?_
       refine wE (ev_build (parts := [(0, .tmp 41), (1, .tmp 42)]) (vs := [(0, .i6 y5.1), (1, .i6 x2)]) rfl (fun w => tb25_0_1 y5.1 x2 w)) F S rfl fun a F=>?_
       refine wl_storeC (wn rfl) rfl F S rfl rfl (vs := [nilS]) rfl ts41 (one_cons rfl one_nil) (k := 4) rfl (lb rfl) (c' := #[nilS]) rfl rfl ?_; clear S; intro w S
       refine wl_storeC (wn rfl) rfl F S rfl rfl (vs := [.i6 y5.1, .i6 x2]) rfl ts25 (one_cons rfl (one_cons rfl one_nil)) (k := 3) rfl (lb rfl) (c' := #[.i6 y5.1, .i6 x2]) rfl rfl ?_; clear S; intro w S
       refine wpList_nil ?_
       refine then_n ?_
       refine wp_ret ?_
       refine inb_r ?_
       refine then_r ?_
       refine then_r ?_
       refine inb_r ?_
       refine then_r ?_
       obtain rfl := sinj hm
       obtain rfl := hfin1 _ rfl
       clear hm
       have hm : (some (({ Files := [] } : FileTree), ({ Code := y5.1, Index := x2 } : Fault)) : Option (FileTree × Fault)) = some _ := hmo1
       obtain rfl := sinj hm
       replace S : St g6 [[], [bx b7 #[v6] 41], c4, [bx b8 #[.i6 y4.Kind, .string y4.Path, .string y4.To, v4, v5] 118], [bx b4 #[.i6 y5.1, .i6 x2] 25], [bx b3 #[nilS] 41]] fr w := S
       refine post_r _ F rfl (ar_cons (resA rfl tu41 rfl (box_ptr (cells := [nilS]) 5 rfl 0 rfl (lb rfl) w S) ts41) (ar_cons (resA rfl tu25 rfl (box_ptr (cells := [.i6 y5.1, .i6 x2]) 4 rfl 0 rfl (lb rfl) w S) ts25) ar_nil)) ?_
       replace S : St g6 [[]] fr w := St.tail [[]] _ (S.frontC 0 rfl)
       exact ⟨_, rfl, g6, (nilS), [], ((((l1.trans l2).trans l3).trans l5).trans l6), S, (OwnS.nil _), rfl⟩
      ·refine wp_condF F rfl hc4 ?_
       refine wp_skip ?_
       refine inb_n ?_
       refine then_n ?_
       refine wp_region_lit ?_
       obtain ⟨z1, hz1, hm⟩ := bind_some hm
       refine wE (ev_int rfl rfl (bo_add hz1)) F S rfl fun a F=>?_
       refine wE (ev_move rfl) F S rfl fun a F=>?_
       refine wpList_nil ?_
       refine then_n ?_
       obtain rfl := sinj hm
       refine ⟨_, rfl, ?_⟩
       dsimp only
       replace S : St g6 [[bx b7 #[v6] 41], [bx b4 #[.i6 0, .i6 0] 25], [bx b3 #[nilS] 41], c4] fr w := St.tail [[bx b7 #[v6] 41], [bx b4 #[.i6 0, .i6 0] 25], [bx b3 #[nilS] 41], c4] _ ((((S.frontC 1 rfl).frontC 5 rfl).frontC 5 rfl).frontC 3 rfl)
       exact ⟨v6, c4, g6, F.sub ⟨rfl, rfl, rfl, rfl, rfl, rfl, trivial⟩, (l5.trans l6), S, h6⟩
     ·refine wp_condF F rfl hc3 ?_
      refine wp_exit ?_
      refine then_e ?_
      refine then_e ?_
      refine inb_x ?_
      refine then_n ?_
      obtain rfl := sinj hm
      obtain rfl := hfin1 _ rfl
      clear hm
      have hm : (treepatch_Apply.j1 x3 : Option (FileTree × Fault)) = some _ := hmo1
      exact ⟨x3, v3, c3, g5, F.sub ⟨rfl, rfl, rfl, trivial⟩, l5, S, h3, hm⟩
   ·clear F S hm; rintro a w ⟨x1, v2, c2, g4, F, l4, S, h2, hm⟩
    refine wp_seq ?_
    refine wp_region_lit ?_
    refine wE (ev_loadA tu41 rfl (cs := [v2]) ts41 rfl (box_ptr (cells := [v2]) 0 rfl 0 rfl (lb rfl))) F S rfl fun a F=>?_
    refine wE (ev_build (parts := []) (vs := []) rfl (fun w => tb25_  w)) F S rfl fun a F=>?_
    refine wl_storeC (wn rfl) rfl F S rfl rfl (vs := [v2]) rfl ts41 (one_cons (OwnS.one h2) one_nil) (k := 2) rfl (lb rfl) (c' := #[v2]) rfl rfl ?_; clear S; intro w S
    refine wl_storeC (wn rfl) rfl F S rfl rfl (vs := [.i6 0, .i6 0]) rfl ts25 (one_cons rfl (one_cons rfl one_nil)) (k := 1) rfl (lb rfl) (c' := #[.i6 0, .i6 0]) rfl rfl ?_; clear S; intro w S
    refine wpList_nil ?_
    refine then_n ?_
    refine wp_ret ?_
    obtain rfl := sinj hm
    refine post_r _ F rfl (ar_cons (resA rfl tu41 rfl (box_ptr (cells := [v2]) 2 rfl 0 rfl (lb rfl) w S) ts41) (ar_cons (resA rfl tu25 rfl (box_ptr (cells := [.i6 0, .i6 0]) 1 rfl 0 rfl (lb rfl) w S) ts25) ar_nil)) ?_
    replace S : St g4 [c2] fr w := St.tail [c2] _ (S.frontC 3 rfl)
    exact ⟨_, rfl, g4, v2, c2, (((l1.trans l2).trans l3).trans l4), S, h2, rfl⟩

theorem changeforgetop_h11Edit_ok {g : Gh} {fr : Hl} {w : World} {r : TreePatch} (path : ByteArray) (p_ : Patch) (vp_1 : Value) (hp_1 : RepSl g p_.Hunks vp_1) (S : St g [] fr w) (hm : changeforgetop_h11Edit path p_ = some r) :
  Calls Tryd.prog 29 [.string path, .agg #[vp_1]].toArray w (fun en w' => ∃ v, en = .returned v ∧ ∃ (g' : Gh) (v1 : Value) (c1 : Hl), Le g g' ∧ St g' [c1] fr w' ∧ OwnS g' r.Changes v1 c1 ∧ .agg #[v1] = v) := by
 unfold changeforgetop_h11Edit at hm
 refine calls_enter (fn := Tryd.f29) Tryd.func29 rfl Tryd.ntmps29 (lb rfl) ?_
 intro a F
 replace F : Fr 10 a [(0, .string path), (1, .agg #[vp_1])] := F
 refine wp_seq ?_
 refine wp_region_lit ?_
 refine wl_boxC (wn rfl) rfl rfl rfl F S rfl rfl ?_; clear F a S; rintro b1 a w F S
 refine wl_alloc (wn rfl) rfl tz81 (cs := [nilS]) rfl F S rfl rfl ?_; clear F a S; rintro b2 a w F S
 refine wpList_nil ?_
 refine then_n ?_
 refine wp_seq ?_
 refine wp_region_lit ?_
 refine wE (ev_move rfl) F S rfl fun a F=>?_
 refine wE (ev_loadA tu55 rfl (cs := [vp_1]) ts55 rfl (box_ptr (cells := [vp_1]) 1 rfl 0 rfl (lb rfl))) F S rfl fun a F=>?_
 refine wE (ev_build (parts := [(0, .const (.i6 4)), (1, .tmp 5), (4, .tmp 6)]) (vs := [(0, .i6 4), (1, .string path), (4, .agg #[vp_1])]) rfl (fun w => tb118_0_1_4 4 path vp_1 (RepSl.isSl hp_1) w)) F S rfl fun a F=>?_
 refine wl_lit (l := ([({ Kind := 4, Path := path, To := ByteArray.empty, Lines := [], Patch := p_ } : TreeChange)] : List TreeChange)) (vs := [.agg #[.i6 4, .string path, .string ByteArray.empty, nilS, vp_1]]) (parts := [(0, .tmp 7)]) (wn rfl) rfl rfl rfl tu79 te118 (sz_cons rfl sz_nil) rfl (Cat.cons (rep_TreeChange_mk (x := ({ Kind := 4, Path := path, To := ByteArray.empty, Lines := [], Patch := p_ } : TreeChange)) (RepSl.nil _) hp_1) (Cat.nil _)) (coa_cons rfl coa_nil) rfl F S rfl rfl ?_; clear F a S
 rintro v1 c1 a w h1 F S
 refine wE (ev_build (parts := [(0, .tmp 8)]) (vs := [(0, v1)]) rfl (fun w => tb81_0 v1 (OwnS.isSl h1) w)) F S rfl fun a F=>?_
 refine wl_storeC (wn rfl) rfl F S rfl rfl (vs := [v1]) rfl ts81 (one_cons (OwnS.one h1) one_nil) (k := 1) rfl (lb rfl) (c' := #[v1]) rfl rfl ?_; clear S; intro w S
 refine wpList_nil ?_
 refine then_n ?_
 refine wp_ret ?_
 obtain rfl := sinj hm
 refine post_r _ F rfl (ar_cons (resA rfl tu81 rfl (box_ptr (cells := [v1]) 1 rfl 0 rfl (lb rfl) w S) ts81) ar_nil) ?_
 replace S : St g [c1] fr w := St.tail [c1] _ (S.frontC 0 rfl)
 exact ⟨_, rfl, g, v1, c1, (Le.refl _), S, h1, rfl⟩

theorem changeforgeequal_Strings_ok {g : Gh} {fr : Hl} {w : World} {r : Bool} (a_ : (List ByteArray)) (va_1 : Value) (ha_1 : RepSl g a_ va_1) (b_ : (List ByteArray)) (vb_1 : Value) (hb_1 : RepSl g b_ vb_1) (S : St g [] fr w) (hm : changeforgeequal_Strings a_ b_ = some r) :
  Calls Tryd.prog 30 [va_1, vb_1].toArray w (fun en w' => ∃ v, en = .returned v ∧ ∃ (g' : Gh), Le g g' ∧ St g' [] fr w' ∧ .bool r = v) := by
 unfold changeforgeequal_Strings at hm
 refine calls_enter (fn := Tryd.f30) Tryd.func30 rfl Tryd.ntmps30 (lb rfl) ?_
 intro a F
 replace F : Fr 26 a [(0, va_1), (1, vb_1)] := F
 refine wp_seq ?_
 refine wp_region_lit ?_
 refine wE (ev_assign rfl) F S rfl fun a F=>?_
 refine wpList_nil ?_
 refine then_n ?_
 refine wp_seq ?_
 refine wp_seq ?_
 refine wp_region_lit ?_
 refine wE (ev_move rfl) F S rfl fun a F=>?_
 refine wE (ev_lenSh ha_1 rfl tu22) F S rfl fun a F=>?_
 refine wE (ev_move rfl) F S rfl fun a F=>?_
 refine wE (ev_lenSh hb_1 rfl tu22) F S rfl fun a F=>?_
 refine wE (ev_int rfl rfl (bo_neq _ _ _ _)) F S rfl fun a F=>?_
 refine wpList_nil ?_
 refine then_n ?_
 obtain ⟨hc1, hm⟩ | ⟨hc1, hm⟩ := ite_or hm
 ·refine wp_condT F rfl hc1 ?_
  refine wp_seq ?_
  refine wp_region_lit ?_
  refine wE (ev_assign rfl) F S rfl fun a F=>?_
  refine wpList_nil ?_
  refine then_n ?_
  refine wp_ret ?_
  refine then_r ?_
  obtain rfl := sinj hm
  refine post_r _ F rfl (ar_cons (resT rfl) ar_nil) ?_
  exact ⟨_, rfl, g, (Le.refl _), S, rfl⟩
 ·refine wp_condF F rfl hc1 ?_
  refine wp_skip ?_
  refine then_n ?_
  refine wp_cut (fun a w => ∃ (g1 : Gh), Fr 26 a [] ∧ Le g g1 ∧ St g1 [] fr w ∧ changeforgeequal_Strings.j1 = some r) ?_ ?_
  ·refine wp_seq ?_
   refine wp_region_lit ?_
   refine wE (ev_assign rfl) F S rfl fun a F=>?_
   refine wpList_nil ?_
   refine then_n ?_
   refine wp_block ?_
   obtain ⟨r1, hr1, hm⟩ := bind_some hm
   have hmo1 := hm; clear hm
   refine wp_iter (σ := Int) (ρ := Bool ⊕ Unit) (m := fun s => changeforgeequal_Strings.l1 a_ b_ s) (I := fun x1 a w => ∃ (g2 : Gh), Fr 26 a [(5, .i6 x1), (0, va_1), (1, vb_1)] ∧ Le g g2 ∧ St g2 [] fr w) hr1 ?_ ?_
   ·exact ⟨g, F.sub ⟨rfl, rfl, rfl, trivial⟩, (Le.refl _), S⟩
   ·clear F S; rintro x1 a w x2 ⟨g2, F, l2, S⟩ hx1 hfin1
    have hm : changeforgeequal_Strings.l1 a_ b_ x1 = some x2 := hx1; clear hx1
    unfold changeforgeequal_Strings.l1 at hm
    refine wp_seq ?_
    refine wp_seq ?_
    refine wp_region_lit ?_
    refine wE (ev_move rfl) F S rfl fun a F=>?_
    refine wE (ev_move rfl) F S rfl fun a F=>?_
    refine wE (ev_lenSh ha_1 rfl tu22) F S rfl fun a F=>?_
    refine wE (ev_int rfl rfl (bo_lss _ _ _ _)) F S rfl fun a F=>?_
    refine wpList_nil ?_
    refine then_n ?_
    obtain ⟨hc2, hm⟩ | ⟨hc2, hm⟩ := ite_or hm
    ·refine wp_condT F rfl hc2 ?_
     refine wp_skip ?_
     refine then_n ?_
     refine wp_seq ?_
     refine wp_block ?_
     refine wp_seq ?_
     refine wp_quiet mo (by kernel_rfl) S ?_
     refine wq_ev (wn rfl) (ev_move rfl) F rfl rfl ?_; clear F a; intro a F
     refine wq_ev (wn rfl) (ev_move rfl) F rfl rfl ?_; clear F a; intro a F
     obtain ⟨y1, hy1, hm⟩ := bind_some hm
     obtain ⟨cs1, hr2, hp1⟩ := elemS (ha_1.mono l2) hy1
     obtain rfl := rep_str hr2
     refine wq_ev (wn rfl) (ev_idxS (ha_1.mono l2) hy1 tu22 ts9 rfl rfl) F rfl rfl ?_; clear F a; intro a F
     refine wq_ev (wn rfl) (ev_load1 tu9 rfl rfl (ptr_mono (cks := []) (fr := fr) hp1 (Le.refl _))) F rfl rfl ?_; clear F a; intro a F
     refine wq_ev (wn rfl) (ev_move rfl) F rfl rfl ?_; clear F a; intro a F
     refine wq_ev (wn rfl) (ev_move rfl) F rfl rfl ?_; clear F a; intro a F
     obtain ⟨y2, hy2, hm⟩ := bind_some hm
     obtain ⟨cs2, hr3, hp2⟩ := elemS (hb_1.mono l2) hy2
     obtain rfl := rep_str hr3
     refine wq_ev (wn rfl) (ev_idxS (hb_1.mono l2) hy2 tu22 ts9 rfl rfl) F rfl rfl ?_; clear F a; intro a F
     refine wq_ev (wn rfl) (ev_load1 tu9 rfl rfl (ptr_mono (cks := []) (fr := fr) hp2 (Le.refl _))) F rfl rfl ?_; clear F a; intro a F
     refine wq_ev (wn rfl) (ev_str rfl rfl (bs_neq _ _ _)) F rfl rfl ?_; clear F a; intro a F
     refine wq_nil ?_; clear S; intro w S
     refine then_n ?_
     obtain ⟨hc3, hm⟩ | ⟨hc3, hm⟩ := ite_or hm
     ·refine wp_condT F rfl hc3 ?_
      refine wp_seq ?_
      refine wp_region_lit ?_
      refine wE (ev_assign rfl) F S rfl fun a F=>?_
      refine wpList_nil ?_
      refine then_n ?_
      refine wp_ret ?_
      refine inb_r ?_
      refine then_r ?_
      refine then_r ?_
      refine inb_r ?_
      refine then_r ?_
      obtain rfl := sinj hm
      obtain rfl := hfin1 _ rfl
      clear hm
      have hm : (some false : Option Bool) = some _ := hmo1
      obtain rfl := sinj hm
      refine post_r _ F rfl (ar_cons (resT rfl) ar_nil) ?_
      exact ⟨_, rfl, g2, l2, S, rfl⟩
     ·refine wp_condF F rfl hc3 ?_
      refine wp_skip ?_
      refine inb_n ?_
      refine then_n ?_
      refine wp_region_lit ?_
      refine wE (ev_move rfl) F S rfl fun a F=>?_
      obtain ⟨z1, hz1, hm⟩ := bind_some hm
      refine wE (ev_int rfl rfl (bo_add hz1)) F S rfl fun a F=>?_
      refine wE (ev_assign rfl) F S rfl fun a F=>?_
      refine wpList_nil ?_
      refine then_n ?_
      obtain rfl := sinj hm
      refine ⟨_, rfl, ?_⟩
      exact ⟨g2, F.sub ⟨rfl, rfl, rfl, trivial⟩, l2, S⟩
    ·refine wp_condF F rfl hc2 ?_
     refine wp_exit ?_
     refine then_e ?_
     refine then_e ?_
     refine inb_x ?_
     refine then_n ?_
     obtain rfl := sinj hm
     obtain rfl := hfin1 _ rfl
     clear hm
     have hm : (changeforgeequal_Strings.j1 : Option Bool) = some _ := hmo1
     exact ⟨g2, F.sub trivial, l2, S, hm⟩
  ·clear F S hm; rintro a w ⟨g1, F, l1, S, hm⟩
   refine wp_seq ?_
   refine wp_region_lit ?_
   refine wE (ev_assign rfl) F S rfl fun a F=>?_
   refine wpList_nil ?_
   refine then_n ?_
   refine wp_ret ?_
   obtain rfl := sinj hm
   refine post_r _ F rfl (ar_cons (resT rfl) ar_nil) ?_
   exact ⟨_, rfl, g1, l1, S, rfl⟩

theorem changeforgeequal_Tree_ok {g : Gh} {fr : Hl} {w : World} {r : Bool} (a_ : FileTree) (va_1 : Value) (ha_1 : RepSl g a_.Files va_1) (b_ : FileTree) (vb_1 : Value) (hb_1 : RepSl g b_.Files vb_1) (S : St g [] fr w) (hm : changeforgeequal_Tree a_ b_ = some r) :
  Calls Tryd.prog 31 [.agg #[va_1], .agg #[vb_1]].toArray w (fun en w' => ∃ v, en = .returned v ∧ ∃ (g' : Gh), Le g g' ∧ St g' [] fr w' ∧ .bool r = v) := by
 unfold changeforgeequal_Tree at hm
 refine calls_enter (fn := Tryd.f31) Tryd.func31 rfl Tryd.ntmps31 (lb rfl) ?_
 intro a F
 replace F : Fr 49 a [(0, .agg #[va_1]), (1, .agg #[vb_1])] := F
 refine wp_seq ?_
 refine wp_region_lit ?_
 refine wl_boxC (wn rfl) rfl rfl rfl F S rfl rfl ?_; clear F a S; rintro b1 a w F S
 refine wl_boxC (wn rfl) rfl rfl rfl F S rfl rfl ?_; clear F a S; rintro b2 a w F S
 refine wE (ev_assign rfl) F S rfl fun a F=>?_
 refine wpList_nil ?_
 refine then_n ?_
 refine wp_seq ?_
 refine wp_seq ?_
 refine wp_region_lit ?_
 refine wE (ev_fieldAddr' tu41 tf41_0 (z := 0) ts39 rfl ⟨_, rfl⟩ rfl) F S rfl fun a F=>?_
 refine wE (ev_load1 tu39 rfl rfl (box_ptr (cells := [va_1]) 1 rfl 0 rfl (lb rfl))) F S rfl fun a F=>?_
 refine wE (ev_lenSh ha_1 rfl tu39) F S rfl fun a F=>?_
 refine wE (ev_fieldAddr' tu41 tf41_0 (z := 0) ts39 rfl ⟨_, rfl⟩ rfl) F S rfl fun a F=>?_
 refine wE (ev_load1 tu39 rfl rfl (box_ptr (cells := [vb_1]) 0 rfl 0 rfl (lb rfl))) F S rfl fun a F=>?_
 refine wE (ev_lenSh hb_1 rfl tu39) F S rfl fun a F=>?_
 refine wE (ev_int rfl rfl (bo_neq _ _ _ _)) F S rfl fun a F=>?_
 refine wpList_nil ?_
 refine then_n ?_
 obtain ⟨hc1, hm⟩ | ⟨hc1, hm⟩ := ite_or hm
 ·refine wp_condT F rfl hc1 ?_
  refine wp_seq ?_
  refine wp_region_lit ?_
  refine wE (ev_assign rfl) F S rfl fun a F=>?_
  refine wpList_nil ?_
  refine then_n ?_
  refine wp_ret ?_
  refine then_r ?_
  obtain rfl := sinj hm
  refine post_r _ F rfl (ar_cons (resT rfl) ar_nil) ?_
  replace S : St g [] fr w := St.tail [] _ S
  exact ⟨_, rfl, g, (Le.refl _), S, rfl⟩
 ·refine wp_condF F rfl hc1 ?_
  refine wp_skip ?_
  refine then_n ?_
  refine wp_cut (fun a w => ∃ (g1 : Gh), Fr 49 a [] ∧ Le g g1 ∧ St g1 [] fr w ∧ changeforgeequal_Tree.j1 = some r) ?_ ?_
  ·refine wp_seq ?_
   refine wp_region_lit ?_
   refine wE (ev_assign rfl) F S rfl fun a F=>?_
   refine wpList_nil ?_
   refine then_n ?_
   refine wp_block ?_
   obtain ⟨r1, hr1, hm⟩ := bind_some hm
   have hmo1 := hm; clear hm
   refine wp_iter (σ := Int) (ρ := Bool ⊕ Unit) (m := fun s => changeforgeequal_Tree.l1 a_ b_ s) (I := fun x1 a w => ∃ (g2 : Gh), Fr 49 a [(5, .i6 x1), (3, bp b2 0), (2, bp b1 0)] ∧ Le g g2 ∧ St g2 [[bx b2 #[vb_1] 41], [bx b1 #[va_1] 41]] fr w) hr1 ?_ ?_
   ·exact ⟨g, F.sub ⟨rfl, rfl, rfl, trivial⟩, (Le.refl _), S⟩
   ·clear F S; rintro x1 a w x2 ⟨g2, F, l2, S⟩ hx1 hfin1
    have hm : changeforgeequal_Tree.l1 a_ b_ x1 = some x2 := hx1; clear hx1
    unfold changeforgeequal_Tree.l1 at hm
    refine wp_seq ?_
    refine wp_seq ?_
    refine wp_region_lit ?_
    refine wE (ev_move rfl) F S rfl fun a F=>?_
    refine wE (ev_fieldAddr' tu41 tf41_0 (z := 0) ts39 rfl ⟨_, rfl⟩ rfl) F S rfl fun a F=>?_
    refine wE (ev_load1 tu39 rfl rfl (box_ptr (cells := [va_1]) 1 rfl 0 rfl (lb rfl))) F S rfl fun a F=>?_
    refine wE (ev_lenSh ha_1 rfl tu39) F S rfl fun a F=>?_
    refine wE (ev_int rfl rfl (bo_lss _ _ _ _)) F S rfl fun a F=>?_
    refine wpList_nil ?_
    refine then_n ?_
    obtain ⟨hc2, hm⟩ | ⟨hc2, hm⟩ := ite_or hm
    ·refine wp_condT F rfl hc2 ?_
     refine wp_skip ?_
     refine then_n ?_
     refine wp_seq ?_
     refine wp_block ?_
     refine wp_seq ?_
     refine wp_quiet mo (by kernel_rfl) S ?_
     refine wq_ev (wn rfl) (ev_fieldAddr' tu41 tf41_0 (z := 0) ts39 rfl ⟨_, rfl⟩ rfl) F rfl rfl ?_; clear F a; intro a F
     refine wq_ev (wn rfl) (ev_load1 tu39 rfl rfl (box_ptr (cells := [va_1]) 1 rfl 0 rfl (lb rfl))) F rfl rfl ?_; clear F a; intro a F
     refine wq_ev (wn rfl) (ev_move rfl) F rfl rfl ?_; clear F a; intro a F
     obtain ⟨y1, hy1, hm⟩ := bind_some hm
     obtain ⟨cs1, hr2, hp1⟩ := elemS (ha_1.mono l2) hy1
     obtain ⟨v1, rfl, h1⟩ := rep_File hr2
     refine wq_ev (wn rfl) (ev_idxS (ha_1.mono l2) hy1 tu39 ts48 rfl rfl) F rfl rfl ?_; clear F a; intro a F
     have hp2 := PtrC.field hp1 0 1 (lb rfl)
     have hp2 : PtrC g2 (addP (elemP va_1 x1 2) 0) [.string y1.Path] := hp2
     refine wq_ev (wn rfl) (ev_fieldAddr' tu48 tf48_0 (z := 0) ts9 rfl hp1.ptr rfl) F rfl rfl ?_; clear F a; intro a F
     refine wq_ev (wn rfl) (ev_load1 tu9 rfl rfl (ptr_mono (cks := [[bx b2 #[vb_1] 41], [bx b1 #[va_1] 41]]) (fr := fr) hp2 (Le.refl _))) F rfl rfl ?_; clear F a; intro a F
     refine wq_ev (wn rfl) (ev_fieldAddr' tu41 tf41_0 (z := 0) ts39 rfl ⟨_, rfl⟩ rfl) F rfl rfl ?_; clear F a; intro a F
     refine wq_ev (wn rfl) (ev_load1 tu39 rfl rfl (box_ptr (cells := [vb_1]) 0 rfl 0 rfl (lb rfl))) F rfl rfl ?_; clear F a; intro a F
     refine wq_ev (wn rfl) (ev_move rfl) F rfl rfl ?_; clear F a; intro a F
     obtain ⟨y2, hy2, hm⟩ := bind_some hm
     obtain ⟨cs2, hr3, hp3⟩ := elemS (hb_1.mono l2) hy2
     obtain ⟨v2, rfl, h2⟩ := rep_File hr3
     refine wq_ev (wn rfl) (ev_idxS (hb_1.mono l2) hy2 tu39 ts48 rfl rfl) F rfl rfl ?_; clear F a; intro a F
     have hp4 := PtrC.field hp3 0 1 (lb rfl)
     have hp4 : PtrC g2 (addP (elemP vb_1 x1 2) 0) [.string y2.Path] := hp4
     refine wq_ev (wn rfl) (ev_fieldAddr' tu48 tf48_0 (z := 0) ts9 rfl hp3.ptr rfl) F rfl rfl ?_; clear F a; intro a F
     refine wq_ev (wn rfl) (ev_load1 tu9 rfl rfl (ptr_mono (cks := [[bx b2 #[vb_1] 41], [bx b1 #[va_1] 41]]) (fr := fr) hp4 (Le.refl _))) F rfl rfl ?_; clear F a; intro a F
     refine wq_ev (wn rfl) (ev_str rfl rfl (bs_neq _ _ _)) F rfl rfl ?_; clear F a; intro a F
     refine wq_ev (wn rfl) (ev_move rfl) F rfl rfl ?_; clear F a; intro a F
     obtain ⟨x3, hx2, hm⟩ := bind_some hm
     refine wq_cut 15 (fun a => Fr 49 a [(48, .bool x3), (5, .i6 x1), (3, bp b2 0), (2, bp b1 0)]) ?_ ?_
     ·clear hm; obtain ⟨hc3, hm⟩ | ⟨hc3, hm⟩ := ite_or hx2
      ·refine wq_skip rfl rfl rfl rfl (ne_ft hc3) F rfl rfl ?_; clear F a; intro a F
       refine wq_skip rfl rfl rfl rfl (ne_ft hc3) F rfl rfl ?_; clear F a; intro a F
       refine wq_skip rfl rfl rfl rfl (ne_ft hc3) F rfl rfl ?_; clear F a; intro a F
       refine wq_skip rfl rfl rfl rfl (ne_ft hc3) F rfl rfl ?_; clear F a; intro a F
       refine wq_skip rfl rfl rfl rfl (ne_ft hc3) F rfl rfl ?_; clear F a; intro a F
       refine wq_skip rfl rfl rfl rfl (ne_ft hc3) F rfl rfl ?_; clear F a; intro a F
       refine wq_skip rfl rfl rfl rfl (ne_ft hc3) F rfl rfl ?_; clear F a; intro a F
       refine wq_skip rfl rfl rfl rfl (ne_ft hc3) F rfl rfl ?_; clear F a; intro a F
       refine wq_skip rfl rfl rfl rfl (ne_ft hc3) F rfl rfl ?_; clear F a; intro a F
       refine wq_skip rfl rfl rfl rfl (ne_ft hc3) F rfl rfl ?_; clear F a; intro a F
       refine wq_skip rfl rfl rfl rfl (ne_ft hc3) F rfl rfl ?_; clear F a; intro a F
       refine wq_skip rfl rfl rfl rfl (ne_ft hc3) F rfl rfl ?_; clear F a; intro a F
       refine wq_skip rfl rfl rfl rfl (ne_ft hc3) F rfl rfl ?_; clear F a; intro a F
       refine wq_skip rfl rfl rfl rfl (ne_ft hc3) F rfl rfl ?_; clear F a; intro a F
       refine wq_ev (wn rfl) (ev_pickT rfl hc3 rfl) F rfl rfl ?_; clear F a; intro a F
       obtain rfl := sinj hm
       refine wq_nil ?_; exact F.sub ⟨rfl, rfl, rfl, rfl, trivial⟩
      ·refine wq_ev (wg F rfl rfl rfl rfl hc3) (ev_fieldAddr' tu41 tf41_0 (z := 0) ts39 rfl ⟨_, rfl⟩ rfl) F rfl rfl ?_; clear F a; intro a F
       refine wq_ev (wg F rfl rfl rfl rfl hc3) (ev_load1 tu39 rfl rfl (box_ptr (cells := [va_1]) 1 rfl 0 rfl (lb rfl))) F rfl rfl ?_; clear F a; intro a F
       refine wq_ev (wg F rfl rfl rfl rfl hc3) (ev_move rfl) F rfl rfl ?_; clear F a; intro a F
       obtain ⟨y3, hy3, hm⟩ := bind_some hm
       obtain ⟨cs3, hr4, hp5⟩ := elemS (ha_1.mono l2) hy3
       obtain ⟨v3, rfl, h3⟩ := rep_File hr4
       refine wq_ev (wg F rfl rfl rfl rfl hc3) (ev_idxS (ha_1.mono l2) hy3 tu39 ts48 rfl rfl) F rfl rfl ?_; clear F a; intro a F
       have hp6 := PtrC.field hp5 1 1 (lb rfl)
       have hp6 : PtrC g2 (addP (elemP va_1 x1 2) 1) [v3] := hp6
       refine wq_ev (wg F rfl rfl rfl rfl hc3) (ev_fieldAddr' tu48 tf48_1 (z := 0) ts22 rfl hp5.ptr rfl) F rfl rfl ?_; clear F a; intro a F
       refine wq_ev (wg F rfl rfl rfl rfl hc3) (ev_load1 tu22 rfl rfl (ptr_mono (cks := [[bx b2 #[vb_1] 41], [bx b1 #[va_1] 41]]) (fr := fr) hp6 (Le.refl _))) F rfl rfl ?_; clear F a; intro a F
       refine wq_ev (wg F rfl rfl rfl rfl hc3) (ev_fieldAddr' tu41 tf41_0 (z := 0) ts39 rfl ⟨_, rfl⟩ rfl) F rfl rfl ?_; clear F a; intro a F
       refine wq_ev (wg F rfl rfl rfl rfl hc3) (ev_load1 tu39 rfl rfl (box_ptr (cells := [vb_1]) 0 rfl 0 rfl (lb rfl))) F rfl rfl ?_; clear F a; intro a F
       refine wq_ev (wg F rfl rfl rfl rfl hc3) (ev_move rfl) F rfl rfl ?_; clear F a; intro a F
       obtain ⟨y4, hy4, hm⟩ := bind_some hm
       obtain ⟨cs4, hr5, hp7⟩ := elemS (hb_1.mono l2) hy4
       obtain ⟨v4, rfl, h4⟩ := rep_File hr5
       refine wq_ev (wg F rfl rfl rfl rfl hc3) (ev_idxS (hb_1.mono l2) hy4 tu39 ts48 rfl rfl) F rfl rfl ?_; clear F a; intro a F
       have hp8 := PtrC.field hp7 1 1 (lb rfl)
       have hp8 : PtrC g2 (addP (elemP vb_1 x1 2) 1) [v4] := hp8
       refine wq_ev (wg F rfl rfl rfl rfl hc3) (ev_fieldAddr' tu48 tf48_1 (z := 0) ts22 rfl hp7.ptr rfl) F rfl rfl ?_; clear F a; intro a F
       refine wq_ev (wg F rfl rfl rfl rfl hc3) (ev_load1 tu22 rfl rfl (ptr_mono (cks := [[bx b2 #[vb_1] 41], [bx b1 #[va_1] 41]]) (fr := fr) hp8 (Le.refl _))) F rfl rfl ?_; clear F a; intro a F
       obtain ⟨y5, hy5, hm⟩ := bind_some hm
       refine wq_call (wg F rfl rfl rfl rfl hc3) rfl (xs := [.tmp 39, .tmp 45]) (vs := [v3, v4]) (cap := []) F rfl rfl tc30 (v := .bool y5) (fun w S => (changeforgeequal_Strings_ok (g := g2) (fr := (fl [[bx b2 #[vb_1] 41], [bx b1 #[va_1] 41]] fr)) (w := w) y3.Lines v3 h3 y4.Lines v4 h4 S hy5).mono (by rintro en w' ⟨_, rfl, g2, l2, S2, rfl⟩; exact ⟨rfl, S2.weak l2⟩)) rfl rfl ?_; clear F a; intro a F
       refine wq_ev (wg F rfl rfl rfl rfl hc3) (ev_not rfl) F rfl rfl ?_; clear F a; intro a F
       refine wq_ev (wn rfl) (ev_pickF rfl hc3 rfl) F rfl rfl ?_; clear F a; intro a F
       obtain rfl := sinj hm
       refine wq_nil ?_; exact F.sub ⟨rfl, rfl, rfl, rfl, trivial⟩
     clear F; intro a F
     refine wq_nil ?_; clear S; intro w S
     refine then_n ?_
     obtain ⟨hc4, hm⟩ | ⟨hc4, hm⟩ := ite_or hm
     ·refine wp_condT F rfl hc4 ?_
      refine wp_seq ?_
      refine wp_region_lit ?_
      refine wE (ev_assign rfl) F S rfl fun a F=>?_
      refine wpList_nil ?_
      refine then_n ?_
      refine wp_ret ?_
      refine inb_r ?_
      refine then_r ?_
      refine then_r ?_
      refine inb_r ?_
      refine then_r ?_
      obtain rfl := sinj hm
      obtain rfl := hfin1 _ rfl
      clear hm
      have hm : (some false : Option Bool) = some _ := hmo1
      obtain rfl := sinj hm
      refine post_r _ F rfl (ar_cons (resT rfl) ar_nil) ?_
      replace S : St g2 [] fr w := St.tail [] _ S
      exact ⟨_, rfl, g2, l2, S, rfl⟩
     ·refine wp_condF F rfl hc4 ?_
      refine wp_skip ?_
      refine inb_n ?_
      refine then_n ?_
      refine wp_region_lit ?_
      refine wE (ev_move rfl) F S rfl fun a F=>?_
      obtain ⟨z1, hz1, hm⟩ := bind_some hm
      refine wE (ev_int rfl rfl (bo_add hz1)) F S rfl fun a F=>?_
      refine wE (ev_assign rfl) F S rfl fun a F=>?_
      refine wpList_nil ?_
      refine then_n ?_
      obtain rfl := sinj hm
      refine ⟨_, rfl, ?_⟩
      exact ⟨g2, F.sub ⟨rfl, rfl, rfl, trivial⟩, l2, S⟩
    ·refine wp_condF F rfl hc2 ?_
     refine wp_exit ?_
     refine then_e ?_
     refine then_e ?_
     refine inb_x ?_
     refine then_n ?_
     obtain rfl := sinj hm
     obtain rfl := hfin1 _ rfl
     clear hm
     have hm : (changeforgeequal_Tree.j1 : Option Bool) = some _ := hmo1
     replace S : St g2 [] fr w := St.tail [] _ S
     exact ⟨g2, F.sub trivial, l2, S, hm⟩
  ·clear F S hm; rintro a w ⟨g1, F, l1, S, hm⟩
   refine wp_seq ?_
   refine wp_region_lit ?_
   refine wE (ev_assign rfl) F S rfl fun a F=>?_
   refine wpList_nil ?_
   refine then_n ?_
   refine wp_ret ?_
   obtain rfl := sinj hm
   refine post_r _ F rfl (ar_cons (resT rfl) ar_nil) ?_
   exact ⟨_, rfl, g1, l1, S, rfl⟩
end Go.Dc
