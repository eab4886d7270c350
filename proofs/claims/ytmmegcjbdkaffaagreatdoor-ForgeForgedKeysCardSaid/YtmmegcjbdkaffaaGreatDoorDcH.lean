import Derived.Test.YtmmegcjbdkaffaaGreatDoorDcG
import Derived.Orders
namespace Go.Dc
open Go
variable {P : Program} {ρ : Option Nat} {n : Fw} {e : List (Nat × Value)}
def Ko (o:Oper):List Nat:=(o.after.toList.filter (Region.binds .any)).map (·.on)
def Oq:List (List Nat)→List Oper→List (List Nat)
  | acc,[]=>acc
  | acc,o::r=>Oq (acc++[Ko o++(Ko o).flatMap fun j=>acc.getD j []]) r
theorem cloF_get:∀ (r:List Oper) (acc:List (List Nat)) (i:Nat),i < acc.length→(Oq acc r).getD i []=acc.getD i []
  | [],acc,i,_=>rfl
  | o::r,acc,i,h=>by
    simp only [Oq];rw [cloF_get r _ i (by simp;omega)]
    simp [List.getD_eq_getElem?_getD,List.getElem?_append_left h]
theorem cloF_spec:∀ (r:List Oper) (acc:List (List Nat)) (i:Nat) (o:Oper),r[i]? = some o→(∀ j∈Ko o,j < acc.length+i) →
    ∀ j,j∈(Oq acc r).getD (acc.length+i) []→∃ q,q∈Ko o∧(j=q∨j∈(Oq acc r).getD q [])
  | [],_,i,o,h,_=>by simp at h
  | q::r,acc,i,o,h,he=>by
    intro j hj;cases i with
    | zero =>
      simp only [List.getElem?_cons_zero,Option.some.injEq] at h;subst h;simp only [Oq,Nat.add_zero] at hj;rw [cloF_get r _ acc.length (by simp)] at hj
      simp only [List.getD_eq_getElem?_getD,List.getElem?_append_right (Nat.le_refl _),Nat.sub_self,List.getElem?_cons_zero,Option.getD_some,List.mem_append,List.mem_flatMap] at hj;rcases hj with hj | ⟨p,hp,hj⟩
      · exact ⟨j,hj,.inl rfl⟩
      · refine ⟨p,hp,.inr ?_⟩;have hpl:=he p hp;simp only [Oq];rw [cloF_get r _ p (by simp;omega),List.getD_eq_getElem?_getD,List.getElem?_append_left (by omega)]
        exact hj
    | succ i =>
      simp only [List.getElem?_cons_succ] at h;have:=cloF_spec r (acc++[Ko q++(Ko q).flatMap fun j=>acc.getD j []]) i o h (by intro j hj;have:=he j hj;simp;omega) j
      simp only [List.length_append,List.length_singleton] at this;rw [show acc.length+1+i=acc.length+(i+1) from by omega] at this
      exact this hj
theorem Qn {C:World→Prop} {f:FuncId} {xs:List Operand} {vs:List Value} (hxs:xs.map (Bt e)=vs.map some):Ev P n e C (.makeFunc (.func f) #[] xs.toArray) (.func (.func f) #[] vs.toArray):=by
  intro o a w ho F _
  have hm:xs.map a.eval=vs:=by
    clear ho
    induction xs generalizing vs with
    | nil=>cases vs with
      | nil=>rfl
      | cons u r=>simp at hxs
    | cons p r ih=>cases vs with
      | nil=>simp at hxs
      | cons u s =>
        simp only [List.map_cons,List.cons.injEq] at hxs ⊢;exact ⟨F.eval hxs.1,ih hxs.2⟩
  simp [execOp,ho,Instr.makeFunc,hm]
end Go.Dc
