import Derived.Test.YtecoobgddnhjfaaGreatDoorDcH
namespace Go.Dc
open Go
variable {P : Program} {ρ : Option Nat} {n : Fw} {e : List (Nat × Value)} {C : World → Prop}
def shr? (k:IntKind) (x y:Int):Option Int:=if y < 0 then Option.none else some (x.fdiv (2 ^ (min y.toNat k.bits)))
theorem ev_shr {T U:TypeId} {x y:Operand} {k k':IntKind} {p q r:Int} (h:shr? k p q=some r) (hx:Dp e x=some (.int k p)) (hy:Dp e y=some (.int k' q)):Ev P n e C (.binOp .shr T x y U) (.int k r):=by
 unfold shr? at h;split at h
 ·cases h
 ·rename_i hq
  cases h;intro o a w ho F _;simp [execOp,ho,F.eval hx,F.eval hy,eqGuard,binOp,Op.shift,hq]
theorem ev_conv {T T':TypeId} {x:Operand} {k k':IntKind} {p r:Int} (h:ckK k' p=some r) (hT:P.underlying T=some (.int k)) (hT':P.underlying T'=some (.int k')) (hx:Dp e x=some (.int k p)):Ev P n e C (.convert T T' x) (.int k' r):=by
 obtain ⟨h1,rfl⟩:=ckK_some h;intro o a w ho F _;simp [execOp,ho,F.eval hx,convert,run_underlying hT,run_underlying hT',Conv.intToInt,h1]
def AllSl {α:Type} [Rep α] (g:Gh):List (List α)→List Value→Prop
 | [],[]=>True
 | l::ls,v::vs=>RepSl g l v∧AllSl g ls vs
 | _,_=>False
theorem AllSl.at {α:Type} [Rep α] {g:Gh}:∀ {ls:List (List α)} {vs:List Value},AllSl g ls vs→∀ (i:Nat) (h:i < ls.length),∃ v,vs[i]? = some v∧RepSl g ls[i] v
 | _::_,v::_,h,0,_=>⟨v,rfl,h.1⟩
 | _::_,_::_,h,i+1,hi=>by
  obtain ⟨v,h1,h2⟩:=AllSl.at h.2 i (by simpa using hi)
  exact ⟨v,by simpa using h1,by simpa using h2⟩
 | [],[],_,_,hi=>absurd hi (by simp)
 | [],_::_,h,_,_=>h.elim
 | _::_,[],h,_,_=>h.elim
theorem ev_indexASl {α:Type} [Rep α] {g:Gh} {T E len E':Nat} {x y:Operand} {ls:List (List α)} {r:List α} {cs:List Value} {k:IntKind} {i:Int} (h:at? ls i=some r) (hT:P.underlying T=some (.array len E)) (hE:P.underlying E=some (.slice E')) (hz:(P.info? E).map (·.size)=some 1) (hlen:ls.length=len)
  (hcs:AllSl g ls cs) (hx:Dp e x=some (.agg cs.toArray)) (hy:Dp e y=some (.int k i)):∃ v,RepSl g r v∧Ev P n e C (.index T x y) v:=by
 obtain ⟨h0,hlt,hr⟩:=Ob h;obtain ⟨v,h2,h3⟩:=hcs.at i.toNat hlt;rw [hr] at h3;refine ⟨v,h3,?_⟩;intro o a w ho F _;have h1:i < (len:Int):=by omega
 simp [execOp,ho,F.eval hx,F.eval hy,Instr.index,asIntOf,run_underlying hT,h0,h1,part,O9 hE,aggD,Ha hz,h2]
theorem Wc {x:Operand} {p:Value} (h:∃ a,p=.pointer (some a)) (hx:Dp e x=some p):Ev P n e C (.nilCheck x) p:=by
 obtain ⟨a0,rfl⟩:=h;exact K5 hx
end Go.Dc
