import Derived.Test.YtmaepcbnjkanhaaGreatDoorDcZM
set_option linter.unusedVariables false
namespace Go.Dc
open Go
variable {P : Program} {ρ : Option Nat} {n : Fw} {e : List (Nat × Value)} {C : World → Prop}
theorem eval_all {a:Act} (F:Fr n a e):∀ {xs:List Operand} {vs:List Value},xs.map (B5 e)=vs.map some→xs.map a.eval=vs
  | [],[],_=>rfl
  | [],_::_,h=>by simp at h
  | _::_,[],h=>by simp at h
  | x::xs,v::vs,h=>by
    simp only [List.map_cons,List.cons.injEq] at h ⊢;exact ⟨F.eval h.1,eval_all F h.2⟩
theorem ev_makeFuncF {f:FuncId} {ys xs:List Operand} {us vs:List Value} (hys:ys.map (B5 e)=us.map some) (hxs:xs.map (B5 e)=vs.map some):Ev P n e C (.makeFunc (.func f) ys.toArray xs.toArray) (.func (.func f) us.toArray vs.toArray):=by
  intro o a w ho F _;have h1:=eval_all F hys;have h2:=eval_all F hxs;simp [execOp,ho,Instr.makeFunc,h1,h2]
theorem wl_callF {ops:Array Oper} {rest:List Oper} {o:Oper} {Q:Exit→Act→World→Prop} {a:Act} {w:World} {f:Operand} {fn:FuncId} {fst cap:List Value} {xs:List Operand} {vs:List Value} {A:Array TypeId} {d:Nat} {R:Value→World→Prop}
    (hg:Region.wanted o (yielded ops a.tmps)=true) (ho:o.op=.call { callee:=.value f,args:=xs.toArray,argTypes:=A }) (F:Fr n a e) (hf:B5 e f=some (.func (.func fn) fst.toArray cap.toArray)) (hxs:xs.map (B5 e)=vs.map some)
    (hent:∀ args w,(callFunc fn args).run P w=.ok (.enter fn args) w) (hc:Calls P fn (fst++vs++cap).toArray w (fun en w'=>∃ v,en=.returned v∧R v w')) (hd:o.dst=some d) (hn:Nat.blt d n.sz=true)
    (K:∀ v a' w',R v w'→Fr n a' ((d,v)::e)→wpListIn (RW ρ) 0 P ops Q rest a' w'):wpListIn (RW ρ) 0 P ops Q (o::rest) a w:=by
  have hm:=eval_all F hxs
  have hrun:(execOp a.eval o).run P w=.ok (.enter fn (fst++vs++cap).toArray) w:=by
    simp [execOp,ho,resolve,F.eval hf,Deferred.ofValue,hm,invoke,hent]
  refine Ld hg hrun (by intro d;simp) ?_
  simp only [Oper.uponIn];refine ⟨(fun h=>by cases h),(N8.2 hc).mono ?_⟩
  rintro en w' ⟨v,rfl,hR⟩;simp only [hd];exact K v _ w' hR (F.put hn)
def u8w (p:Int):UInt8:=UInt8.ofNat (IntKind.u8.wrap p).toNat
theorem u8_wrap (p:Int):0≤IntKind.u8.wrap p∧IntKind.u8.wrap p < 256:=by
  simp only [IntKind.wrap,IntKind.bits,IntKind.signed];constructor
  · simp;omega
  · simp;omega
theorem u8w_val (p:Int):(((u8w p).toNat:Nat):Int)=IntKind.u8.wrap p:=by
  have h:=u8_wrap p;unfold u8w;rw [UInt8.toNat_ofNat'];omega
theorem ev_convU {T T':TypeId} {x:Operand} {k:IntKind} {p:Int} {r:UInt8} (h:some (u8w p)=some r) (hT:P.underlying T=some (.int k)) (hT':P.underlying T'=some (.int .u8)) (hx:B5 e x=some (.int k p)):Ev P n e C (.convert T T' x) (.int .u8 (r.toNat:Nat)):=by
  obtain rfl:=Option.some.inj h;intro o a w ho F _;simp [execOp,ho,F.eval hx,convert,run_underlying hT,run_underlying hT',Conv.intToInt,u8w_val]
end Go.Dc
