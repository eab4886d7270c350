/- The front part of an owned slice of owned things whose element is out. -/
import Derived.Test.YtibigfejalemjaaDcK
namespace Go.Dc
open Go
variable {P : Program} {ρ : Option Nat} {n : Fw} {e : List (Nat × Value)}
variable {α : Type} [Rep α] [ORep α]

theorem wl_cutH {ops : Array Oper} {rest : List Oper} {o : Oper} {Q : Exit → Act → World → Prop} {a : Act} {w : World} {g : Gh} {cks : List Hl} {fr : Hl} {l l' : List α} {v : Value} {cs : List Value} {ca cr : Hl} {x : Operand} {lo hi : Option Operand} {T E : TypeId} {i q : Int} {d : Nat}
    (hg : Region.wanted o (yielded ops a.tmps) = true) (ho : o.op = .slice T x lo hi Option.none) (hr : HoleN g l v i cs ca cr) (hq : q ≤ i) (S : St g ((ca ++ cr) :: cks) fr w) (hc : cut? l 0 q = some l') (hT : P.underlying T = some (.slice E)) (hz : (P.info? E).map (·.size) = some (Rep.n α))
    (hx : evalE e x = some v) (hlo : bnd e lo 0 0) (hhi : bnd e hi l.length q) (F : Fr n a e) (hd : o.dst = some d) (hn : Nat.blt d n.sz = true)
    (K : ∀ v' c', OwnN g l' v' c' → St g (c' :: cks) fr w → ∀ a', Fr n a' ((d, v') :: e) → wpListIn (RW ρ) 0 P ops Q rest a' w) : wpListIn (RW ρ) 0 P ops Q (o :: rest) a w := by
  obtain ⟨h0, rl, ks, r, h1, h2, h3, h4, h5, h6, h7, h8, h9⟩ := hr
  unfold cut? at hc
  split at hc
  case isFalse => cases hc
  rename_i hb
  cases hc
  obtain ⟨b0, b1, b2⟩ := hb
  refine wl_cutO (α := Raw (Rep.n α)) (l' := (rl.take q.toNat).drop (0 : Int).toNat) hg ho h1 (by unfold cut?; rw [if_pos ⟨b0, b1, by omega⟩]) hT hz hx hlo (by rw [h3]; exact hhi) F hd hn ?_
  intro v' h' a' F'
  refine K v' (ca ++ (ks.take q.toNat).flatten) ⟨_, ca, ks.take q.toNat, h', List.Perm.refl _, ?_, ?_, ?_⟩ ?_ a' F'
  · simp [h3]
  · simp [h4]
  · intro j a b c
    simp only [Int.toNat_zero, List.drop_zero, List.getElem_take]
    have hj : j < q.toNat := by simp only [Int.toNat_zero, List.drop_zero, List.length_take] at a; omega
    exact h9 j _ _ _ (by omega)
  · have S2 : St0 g ((ks.drop q.toNat).flatten ++ (ca ++ ((ks.take q.toNat).flatten ++ fl cks fr))) w := by
      refine St0.perm S ?_
      simp only [fl]
      refine (List.Perm.append_right _ (List.Perm.append_left ca h2)).trans ?_
      have : ks.flatten = (ks.take q.toNat).flatten ++ (ks.drop q.toNat).flatten := by rw [← List.flatten_append, List.take_append_drop]
      rw [this]
      refine List.Perm.trans (.of_eq (by simp only [List.append_assoc] : _ = (ca ++ (ks.take q.toNat).flatten) ++ ((ks.drop q.toNat).flatten ++ fl cks fr))) ?_
      refine List.Perm.trans ?_ (.of_eq (by simp only [List.append_assoc] : ((ks.drop q.toNat).flatten ++ (ca ++ (ks.take q.toNat).flatten)) ++ fl cks fr = _))
      rw [← List.append_assoc]
      exact List.Perm.append_right _ List.perm_append_comm
    have := S2.drop
    refine St0.of_eq this ?_
    simp only [fl, List.append_assoc]
end Go.Dc
