import Derived.Test.YtmaepcbnjkanhaaGreatDoorDcZM
set_option linter.unusedVariables false
namespace Go.Dc
open Go
variable {P : Program} {ρ : Option Nat} {n : Fw} {e : List (Nat × Value)} {C : World → Prop}
theorem eval_all {a:Act} (F:Fr n a e):∀ {xs:List Operand} {vs:List Value},xs.map (Bt e)=vs.map some→xs.map a.eval=vs
  | [],[],_=>rfl
  | [],_::_,h=>by simp at h
  | _::_,[],h=>by simp at h
  | x::xs,v::vs,h=>by
    simp only [List.map_cons,List.cons.injEq] at h ⊢;exact ⟨F.eval h.1,eval_all F h.2⟩
theorem ev_makeFuncF {f:FuncId} {ys xs:List Operand} {us vs:List Value} (hys:ys.map (Bt e)=us.map some) (hxs:xs.map (Bt e)=vs.map some):Ev P n e C (.makeFunc (.func f) ys.toArray xs.toArray) (.func (.func f) us.toArray vs.toArray):=by
  intro o a w ho F _;have h1:=eval_all F hys;have h2:=eval_all F hxs;simp [execOp,ho,Instr.makeFunc,h1,h2]
theorem wl_callF {ops:Array Oper} {rest:List Oper} {o:Oper} {Q:Exit→Act→World→Prop} {a:Act} {w:World} {f:Operand} {fn:FuncId} {fst cap:List Value} {xs:List Operand} {vs:List Value} {A:Array TypeId} {d:Nat} {R:Value→World→Prop}
    (hg:Region.wanted o (yielded ops a.tmps)=true) (ho:o.op=.call { callee:=.value f,args:=xs.toArray,argTypes:=A }) (F:Fr n a e) (hf:Bt e f=some (.func (.func fn) fst.toArray cap.toArray)) (hxs:xs.map (Bt e)=vs.map some)
    (hent:∀ args w,(callFunc fn args).run P w=.ok (.enter fn args) w) (hc:Calls P fn (fst++vs++cap).toArray w (fun en w'=>∃ v,en=.returned v∧R v w')) (hd:o.dst=some d) (hn:Nat.blt d n.sz=true)
    (K:∀ v a' w',R v w'→Fr n a' ((d,v)::e)→wpListIn (RW ρ) 0 P ops Q rest a' w'):wpListIn (RW ρ) 0 P ops Q (o::rest) a w:=by
  have hm:=eval_all F hxs
  have hrun:(execOp a.eval o).run P w=.ok (.enter fn (fst++vs++cap).toArray) w:=by
    simp [execOp,ho,resolve,F.eval hf,Deferred.ofValue,hm,invoke,hent]
  refine Lu hg hrun (by intro d;simp) ?_
  simp only [Oper.uponIn];refine ⟨(fun h=>by cases h),(Ov.2 hc).mono ?_⟩
  rintro en w' ⟨v,rfl,hR⟩;simp only [hd];exact K v _ w' hR (F.put hn)
def u8w (p:Int):UInt8:=UInt8.ofNat (IntKind.u8.wrap p).toNat
theorem u8_wrap (p:Int):0≤IntKind.u8.wrap p∧IntKind.u8.wrap p < 256:=by
  simp only [IntKind.wrap,IntKind.bits,IntKind.signed];constructor
  · simp;omega
  · simp;omega
theorem u8w_val (p:Int):(((u8w p).toNat:Nat):Int)=IntKind.u8.wrap p:=by
  have h:=u8_wrap p;unfold u8w;rw [UInt8.toNat_ofNat'];omega
theorem ev_convU {T T':TypeId} {x:Operand} {k:IntKind} {p:Int} {r:UInt8} (h:some (u8w p)=some r) (hT:P.underlying T=some (.int k)) (hT':P.underlying T'=some (.int .u8)) (hx:Bt e x=some (.int k p)):Ev P n e C (.convert T T' x) (.int .u8 (r.toNat:Nat)):=by
  obtain rfl:=Option.some.inj h;intro o a w ho F _;simp [execOp,ho,F.eval hx,convert,run_underlying hT,run_underlying hT',Conv.intToInt,u8w_val]
def pm:List Nat→List Hl→List Hl
  | [],_=>[]
  | i::is,l=>l.getD i []::pm is (l.set i [])
theorem pm_sub {g:Gh} {fr:Hl} {w:World}:∀ (is:List Nat) (l:List Hl) (pre:Hl),St0 g (pre++fl l fr) w→St0 g (pre++fl (pm is l) fr) w
  | [],l,pre,h=>h.sub ((fl_sub [] l fr).append_left pre)
  | i::is,l,pre,h=>by
    have h2:St0 g ((pre++l.getD i [])++fl (l.set i []) fr) w:=by
      rw [List.append_assoc];refine h.perm (List.Perm.append_left pre ?_);by_cases hi:i < l.length
      · have e:l[i]? = some (l.getD i []):=by simp [List.getD,hi]
        exact (fl_set_perm e)
      · rw [List.set_eq_of_length_le (by omega)]
        have e:l.getD i []=[]:=by simp [List.getD,hi]
        rw [e];exact List.Perm.refl _
    have:=pm_sub is _ _ h2;rw [List.append_assoc] at this;exact this
theorem St.pm {g:Gh} {l:List Hl} {fr:Hl} {w:World} (S:St g l fr w) (is:List Nat):St g (pm is l) fr w:=pm_sub is l [] S
theorem St.z {g:Gh} {l:List Hl} {fr:Hl} {w:World} (S:St g l fr w):St g [] (fl l fr) w:=S
theorem St.y {g:Gh} {l:List Hl} {fr:Hl} {w:World} (S:St g [] (fl l fr) w):St g l fr w:=S
theorem St.y1 {g:Gh} {c:Hl} {l:List Hl} {fr:Hl} {w:World} (S:St g [c] (fl l fr) w):St g (c::l) fr w:=S
theorem St.y2 {g:Gh} {c c2:Hl} {l:List Hl} {fr:Hl} {w:World} (S:St g [c,c2] (fl l fr) w):St g (c::c2::l) fr w:=S
theorem St.e0 {g:Gh} {l:List Hl} {fr:Hl} {w:World} (S:St g l fr w):St g ([]::l) fr w:=S
theorem St.fz {α:Type} [Rep α] {g:Gh} {cs:List Hl} {fr:Hl} {w:World} {x:List α} {v:Value} {c:Hl} (S:St g cs fr w) (k:Nat) (hk:cs[k]? = some c) (h:OwnS g x v c):∃ gz,Le g gz∧St gz (cs.eraseIdx k) fr w∧RepSl gz x v :=
  ⟨_,Le.add _ _,S.freeze k hk,OwnS.freeze (S.front k hk) h⟩
theorem Fr.s {n:Fw} {a:Act} {e e':List (Nat×Value)} (F:Fr n a e) (h:Sub e e':=by repeat (first | exact trivial | refine ⟨rfl,?_⟩)):Fr n a e':=F.sub h
theorem Y {P:Program} {ρ:Option Nat} {n:Fw} {e:List (Nat×Value)} {C:World→Prop} {ops:Array Oper} {rest:List Oper} {o:Oper} {Q:Exit→Act→World→Prop} {w:World} {v:Value} {d:Nat}
    (hev:Ev P n e C o.op v) (hC:C w) (hd:o.dst=some d) (k:∀ a',Fr n a' ((d,v)::e)→wpListIn (RW ρ) 0 P ops Q rest a' w) (hg:o.guard=Option.none:=by rfl) (hn:Nat.blt d n.sz=true:=by rfl):∀ a,Fr n a e→wpListIn (RW ρ) 0 P ops Q (o::rest) a w :=
  fun a F=>wE hev F hC hd k hg hn
end Go.Dc
