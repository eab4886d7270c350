import Derived.Test.YtecoobgddnhjfaaGreatDoorDcG
import Derived.Orders
namespace Go.Dc
open Go
variable {P : Program} {ρ : Option Nat} {n : Fw} {e : List (Nat × Value)}
def N5 (o:Oper):List Nat:=(o.after.toList.filter (Region.binds .any)).map (·.on)
def Vn:List (List Nat)→List Oper→List (List Nat)
 | acc,[]=>acc
 | acc,o::r=>Vn (acc++[N5 o++(N5 o).flatMap fun j=>acc.getD j []]) r
theorem cloF_get:∀ (r:List Oper) (acc:List (List Nat)) (i:Nat),i < acc.length→(Vn acc r).getD i []=acc.getD i []
 | [],acc,i,_=>rfl
 | o::r,acc,i,h=>by
  simp only [Vn];rw [cloF_get r _ i (by simp;omega)]
  simp [List.getD_eq_getElem?_getD,List.getElem?_append_left h]
theorem cloF_spec:∀ (r:List Oper) (acc:List (List Nat)) (i:Nat) (o:Oper),r[i]? = some o→(∀ j∈N5 o,j < acc.length+i) →
  ∀ j,j∈(Vn acc r).getD (acc.length+i) []→∃ q,q∈N5 o∧(j=q∨j∈(Vn acc r).getD q [])
 | [],_,i,o,h,_=>by simp at h
 | q::r,acc,i,o,h,he=>by
  intro j hj;cases i with
  | zero =>
   simp only [List.getElem?_cons_zero,Option.some.injEq] at h;subst h;simp only [Vn,Eu] at hj;rw [cloF_get r _ acc.length (by simp)] at hj
   simp only [List.getD_eq_getElem?_getD,List.getElem?_append_right (C1 _),Mf,List.getElem?_cons_zero,Option.getD_some,Bj,List.mem_flatMap] at hj;rcases hj with hj | ⟨p,hp,hj⟩
   ·exact ⟨j,hj,.inl rfl⟩
   ·refine ⟨p,hp,.inr ?_⟩;have hpl:=he p hp;simp only [Vn];rw [cloF_get r _ p (by simp;omega),List.getD_eq_getElem?_getD,List.getElem?_append_left (by omega)]
    exact hj
  | succ i =>
   simp only [List.getElem?_cons_succ] at h;have:=cloF_spec r (acc++[N5 q++(N5 q).flatMap fun j=>acc.getD j []]) i o h (by intro j hj;have:=he j hj;simp;omega) j
   simp only [Av,Ax] at this;rw [show acc.length+1+i=acc.length+(i+1) from by omega] at this
   exact this hj
theorem Vg {C:World→Prop} {f:FuncId} {xs:List Operand} {vs:List Value} (hxs:xs.map (Dp e)=vs.map some):Ev P n e C (.makeFunc (.func f) #[] xs.toArray) (.func (.func f) #[] vs.toArray):=by
 intro o a w ho F _
 have hm:xs.map a.eval=vs:=by
  clear ho
  induction xs generalizing vs with
  | nil=>cases vs with
   | nil=>rfl
   | cons u r=>simp at hxs
  | cons p r ih=>cases vs with
   | nil=>simp at hxs
   | cons u s =>
    simp only [Ey,List.cons.injEq] at hxs ⊢;exact ⟨F.eval hxs.1,ih hxs.2⟩
 simp [execOp,ho,Instr.makeFunc,hm]
end Go.Dc
