import Derived.Test.YtmaepcbnjkanhaaGreatDoorDcX
set_option linter.unusedVariables false
namespace Go.Dc
open Go
variable {P : Program} {ρ : Option Nat} {n : Fw} {e : List (Nat × Value)} {C : World → Prop}
def NilE {α:Type} (l:List α) (v:Value):Prop:=l=[]→v=.slice Option.none 0 0
def neE? {α:Type} (l:List α):Option Unit:=if l.isEmpty then Option.none else some ()
theorem NilE.nil {α:Type}:NilE ([]:List α) (.slice Option.none 0 0):=fun _=>rfl
theorem NilE.of {α:Type} {l:List α} {v:Value} {u:Unit} (h:neE? l=some u):NilE l v:=by
  intro e;subst e;cases h
section
variable {α : Type} [Rep α]
end
end Go.Dc
