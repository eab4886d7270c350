import Derived.Test.YtfpbdmldeikfbaaGreatDoorDcL
set_option linter.unusedSimpArgs false
set_option linter.unusedVariables false
namespace Go.Dc
open Go
def mkD (D:Nat):Deferred:={ target:=.collected D,args:=#[] }
def IsRec (R:LoopState→Option Code→Loop) (D N:Nat) (e0:List (Nat×Value)) (ps:List Nat) (assign body:Code):Prop :=
 ∃ fn tmps,Fr ⟨N,[]⟩ { tmps:=tmps,defers:=[] } e0∧∀ s p,R s p={ state:=s,pending:=p,fn:=fn,tmps:=tmps,params:=ps.toArray,assign:=assign,body:=body,defers:=D }
def putAll:List Nat→List Value→List (Nat×Value)→List (Nat×Value)
 | p::ps,v::vs,e=>putAll ps vs ((p,v)::e)
 | _,_,e=>e
variable {P : Program} {ρ : Option Nat} {n : Fw} {e e' : List (Nat × Value)} {g : Gh} {cks : List Hl} {fr : Hl} {w : World} {l D N k : Nat} {R : LoopState → Option Code → Loop} {e0 : List (Nat × Value)} {ps : List Nat} {assign body : Code} {Q : Exit → Act → World → Prop}
theorem set_obj {b:Nat} {x y:Obj} (S:St g cks fr w) (hk:cks[k]? = some [(b,x)]):St g (cks.set k [(b,y)]) fr { w with heap:=w.heap.setIfInBounds b y }:=by
 have hb:=S.heap k hk
 have hlt:k < cks.length:=by
  rcases Ec k cks.length with h' | h'
  ·exact h'
  ·simp [List.getElem?_eq_none h'] at hk
 have hbl:b < w.heap.size:=U3 hb;refine St.back k hlt ?_;refine (S.front k hk).write (y:=y) ?_ ?_ rfl rfl rfl
 ·simp [hbl]
 ·intro c hc;simp [Ne.symm hc]
theorem Wo {r:Loop} (h:w.heap[l]? = some (.loop r)):(Instr.getLoop l).run P w=.ok r w:=by
 simp [Instr.getLoop,getObj,Sem.run,h]
theorem Xy {b:Nat} {x y:Obj} (h:w.heap[b]? = some x) (hx:∀ c t f,x≠.cells c t f):(setObj b y).run P w=.ok () { w with heap:=w.heap.setIfInBounds b y }:=by
 cases x with
 | cells c t f=>exact absurd rfl (hx c t f)
 | _=>simp [setObj,Sem.run,h]
theorem begin_round {Q':Exit→Act→World→Prop} {a:Act} {p0:Option Code} (S:St g cks fr w) (k:Nat) (hk:cks[k]? = some [(l,.loop (R .ready p0))]) (hR:IsRec R D N e0 ps assign body)
  (h:∀ w2,St g (cks.set k [(l,.loop (R .busy p0))]) fr w2→body.wpIn (RW (some l)) 0 P Q' a w2):∃ w₂,(Instr.beginRound l).run P w=.ok () w₂∧body.wpIn (RW (some l)) 0 P Q' a w₂:=by
 obtain ⟨fn,tmps,_,hR⟩:=hR;have hb:=S.heap k hk;refine ⟨_,?_,h _ (set_obj (y:=.loop (R .busy p0)) S hk)⟩;simp only [Instr.beginRound,Sem.run_bind,Wo hb,Result.andThen_ok];rw [Xy hb (by intro c t f;simp)]
 simp [hR]
theorem round_n {Y:Ending→World→Prop} {a:Act} {p0:Option Code} (S:St g cks fr w) (k:Nat) (hk:cks[k]? = some [(l,.loop (R .busy p0))]) (hR:IsRec R D N e0 ps assign body)
  (h:∀ w',St g (cks.set k [(l,.loop (R .ready Option.none))]) fr w'→Y (.returned (.bool true)) w'):roundPost P l Y .normal a w:=by
 obtain ⟨fn,tmps,_,hR⟩:=hR;have hb:=S.heap k hk;refine ⟨_,_,?_,h _ (set_obj (y:=.loop (R .ready Option.none)) S hk)⟩;simp only [Instr.endRound,Sem.run_bind,Wo hb,Result.andThen_ok];rw [Xy hb (by intro c t f;simp)]
 simp [hR]
theorem round_r {Y:Ending→World→Prop} {a:Act} {p0:Option Code} (S:St g cks fr w) (k:Nat) (hk:cks[k]? = some [(l,.loop (R .busy p0))]) (hR:IsRec R D N e0 ps assign body)
  (h:∀ w',St g (cks.set k [(l,.loop (R .done (some .ret)))]) fr w'→Y (.returned (.bool false)) w'):roundPost P l Y .ret a w:=by
 obtain ⟨fn,tmps,_,hR⟩:=hR;have hb:=S.heap k hk;refine ⟨_,_,?_,h _ (set_obj (y:=.loop (R .done (some .ret))) S hk)⟩;simp only [Instr.endRound,Sem.run_bind,Wo hb,Result.andThen_ok];rw [Xy hb (by intro c t f;simp)]
 simp [hR]
theorem fr_params:∀ {ps:List Nat} {vs:List Value} {tmps:Array Value} {e0:List (Nat×Value)},ps.length=vs.length→ps.all (fun p=>Nat.blt p N)=true→Fr ⟨N,[]⟩ { tmps:=tmps,defers:=[] } e0 →
  Fr ⟨N,[]⟩ { tmps:=(ps.zip vs).foldl (fun tmps (t,a)=>tmps.setIfInBounds t a) tmps,defers:=[] } (putAll ps vs e0)
 | [],[],_,_,_,_,F=>F
 | p::ps,v::vs,tmps,e0,hl,ha,F=>by
  simp only [List.all_cons,Cv] at ha;simp only [List.zip_cons_cons,Hg,putAll];refine fr_params (by simpa using hl) ha.2 ?_
  exact F.put (d:=p) (v:=v) ha.1
theorem wl_yield {ops:Array Oper} {rest:List Oper} {o:Oper} {a:Act} {f:Operand} {xs:List Operand} {vs:List Value} {A:Array TypeId} {d:Nat} {p0:Option Code}
  (hg:Region.wanted o (yielded ops a.tmps)=true) (ho:o.op=.call { callee:=.value f,args:=xs.toArray,argTypes:=A }) (hsub:Sub e e') (F:Fr n a e) (S:St g cks fr w) (hf:Bn e f=some (.func (.yield l) #[] #[])) (hxs:xs.map (Bn e)=vs.map some)
  (hd:o.dst=some d) (hn:Nat.blt d n.sz=true) (k:Nat) (hk:cks[k]? = some [(l,.loop (R .ready p0))]) (hR:IsRec R D N e0 ps assign body) (hl:ps.length=vs.length) (hps:ps.all (fun p=>Nat.blt p N)=true)
  (h:∀ a',Fr ⟨N,[]⟩ a' (putAll ps vs e0)→assign.wpIn (RW (some l)) 0 P (Exit.then (fun a₁ w₁=>∃ w₂,(Instr.beginRound l).run P w₁=.ok () w₂ ∧
   body.wpIn (RW (some l)) 0 P (roundPost P l fun en w'=>∃ b,en=.returned (.bool b)∧∀ a',Fr n a' ((d,.bool b)::e')→wpListIn (RW ρ) 0 P ops Q rest a' w') a₁ w₂) fun _ _ _=>False) a' w) :
  wpListIn (RW ρ) 0 P ops Q (o::rest) a w:=by
 have hm:xs.map a.eval=vs:=by
  clear ho;clear hl h
  induction xs generalizing vs with
  | nil=>cases vs with
   | nil=>rfl
   | cons u r=>simp at hxs
  | cons p r ih=>cases vs with
   | nil=>simp at hxs
   | cons u s =>
    simp only [Dg,List.cons.injEq] at hxs ⊢;exact ⟨F.eval hxs.1,ih hxs.2⟩
 have hb:=S.heap k hk;obtain ⟨fn,tmps,hF,hR⟩:=hR
 have hrun:(execOp a.eval o).run P w=.ok (.round l fn ((ps.zip vs).foldl (fun tmps (t,a)=>tmps.setIfInBounds t a) tmps) assign body) w:=by
  simp [execOp,ho,resolve,F.eval hf,Deferred.ofValue,hm,invoke,Instr.yield,Wo hb,hR,hl]
 refine Ue hg hrun (by intro d;simp) ?_
 simp only [Oper.uponIn];refine ⟨(fun h=>by cases h),(roundIn_of_wpIn (F:=RW ρ) trivial (h _ (fr_params (tmps:=tmps) hl hps hF))).mono ?_⟩
 rintro en w' ⟨b,rfl,hK⟩;simp only [hd];exact hK _ ((F.put hn).sub' hsub)
def Exit.retJ (J:Act→World→Prop) (Q:Exit→Act→World→Prop):Exit→Act→World→Prop
 | .ret,a,w=>J a w
 | e,a,w=>Q e a w
theorem wp_cutR {c:Code} {a:Act} (J:Act→World→Prop) (h1:c.wpIn (RW ρ) 0 P (Exit.retJ J Q) a w) (h2:∀ a w,J a w→Q .ret a w):c.wpIn (RW ρ) 0 P Q a w:=by
 refine Go.wpIn_mono h1 ?_;intro en a' w' hq;cases en <;> first | exact h2 _ _ hq | exact hq
theorem rj_n {J:Act→World→Prop} {a:Act} (h:Q .normal a w):Exit.retJ J Q .normal a w:=h
theorem rj_r {J:Act→World→Prop} {a:Act} (h:J a w):Exit.retJ J Q .ret a w:=h
def RPost (P:Program) (n:Fw) (l D:Nat) (e:List (Nat×Value)) (Q:Exit→Act→World→Prop) (w:World):Prop :=
 ∃ jump w',(Instr.endLoop l).run P w=.ok jump w'∧∀ a',Fr ⟨n.sz,mkD D::n.df⟩ a' e→match jump with
  | Option.none=>Q .normal a' w'
  | some c=>c.wpIn (RW Option.none) 0 P Q a' w'
theorem rp_n (S:St g cks fr w) (k:Nat) (hk:cks[k]? = some [(l,.loop (R .ready Option.none))]) (hR:IsRec R D N e0 ps assign body)
  (h:∀ w',St g (cks.set k []) fr w'→∀ a',Fr ⟨n.sz,mkD D::n.df⟩ a' e→Q .normal a' w'):RPost P n l D e Q w:=by
 obtain ⟨fn,tmps,_,hR⟩:=hR;have hb:=S.heap k hk;have S2:=(set_obj (y:=.loop { R .ready Option.none with state:=.exhausted }) S hk).lose k;rw [List.set_set] at S2;refine ⟨Option.none,_,?_,h _ S2⟩
 ·simp only [Instr.endLoop,Sem.run_bind,Wo hb,Result.andThen_ok];rw [show ((R .ready Option.none).state == LoopState.busy)=false from by rw [hR];rfl]
  simp only [A6,Cg,Sem.run_pure,Sem.run_bind];rw [Xy hb (by intro c t f;simp)]
  simp [hR]
theorem rp_r (S:St g cks fr w) (k:Nat) (hk:cks[k]? = some [(l,.loop (R .done (some .ret)))]) (hR:IsRec R D N e0 ps assign body)
  (h:∀ w',St g (cks.set k []) fr w'→∀ a',Fr ⟨n.sz,mkD D::n.df⟩ a' e→Q .ret a' w'):RPost P n l D e Q w:=by
 obtain ⟨fn,tmps,_,hR⟩:=hR;have hb:=S.heap k hk;have S2:=(set_obj (y:=.loop { R .done (some .ret) with state:=.exhausted }) S hk).lose k;rw [List.set_set] at S2;refine ⟨some .ret,_,?_,fun a' F=>wpIn_ret (h _ S2 a' F)⟩
 ·simp only [Instr.endLoop,Sem.run_bind,Wo hb,Result.andThen_ok];rw [show ((R .done (some .ret)).state == LoopState.busy)=false from by rw [hR];rfl]
  simp only [A6,Cg,Sem.run_pure,Sem.run_bind];rw [Xy hb (by intro c t f;simp)]
  simp [hR]
theorem wp_range {x:Operand} {a:Act} {f:FuncId} {cap:List Value} (F:Fr n a e) (hsub:Sub e e0) (S:St g cks fr w) (hx:Bn e x=some (.func (.func f) #[] cap.toArray))
  (hent:∀ args w,(callFunc f args).run P w=.ok (.enter f args) w)
  (h:∀ R l D w',IsRec R D n.sz e0 ps assign body→St g ([(l,.loop (R .ready Option.none))]::[(D,.deferred (some []))]::cks) fr w' →
   Calls P f ([Value.func (.yield l) #[] #[]]++cap).toArray w' fun en w''=>∃ v,en=.returned v∧RPost P n l D e0 Q w'') :
  (Code.rangeFunc x ps.toArray assign body).wpIn (RW Option.none) 0 P Q a w:=by
 refine wpIn_rangeFunc fun fn _=>?_;let D:=w.heap.size;let w1:World:={ w with heap:=w.heap.push (.deferred (some [])) };let l:=w1.heap.size;let R:LoopState→Option Code→Loop:=fun s p=>{ state:=s,pending:=p,fn:=fn,tmps:=a.tmps,params:=ps.toArray,assign:=assign,body:=body,defers:=D };let w2:World:={ w1 with heap:=w1.heap.push (.loop (R .ready Option.none)) };have S1:St g ([(D,.deferred (some []))]::cks) fr w1:=S.push rfl rfl rfl rfl;have S2:St g ([(l,.loop (R .ready Option.none))]::[(D,.deferred (some []))]::cks) fr w2:=St0.push S1 rfl rfl rfl rfl;have hF0:Fr ⟨n.sz,[]⟩ { tmps:=a.tmps,defers:=[] } e0:=⟨F.sz,rfl,fun t v ht=>F.get t v (hsub.look t v ht)⟩;refine ⟨l,[mkD D],w2,{ target:=.fn (.func f) cap.toArray,args:=#[Value.func (.yield l) #[] #[]] },w2,f,([Value.func (.yield l) #[] #[]]++cap).toArray,w2,?_,?_,fun _ _=>trivial,?_,(fun h=>by cases h),?_⟩
 ·simp [Instr.enterLoop,newObj,Sem.run,w1,w2,R,D,l,mkD,RW,Fence.wide]
 ·have hx':=F.eval hx;simp [resolve,hx',Deferred.ofValue];rfl
 ·simp [invoke,hent]
 ·refine Zn.2 ((h R l D w2 ⟨fn,a.tmps,hF0,fun _ _=>rfl⟩ S2).mono ?_);rintro en w3 ⟨v,rfl,jump,w4,h1,h2⟩;refine ⟨jump,w4,h1,?_⟩;have F':Fr ⟨n.sz,mkD D::n.df⟩ { a with defers:=[mkD D]++a.defers } e0:=⟨F.sz,by simp [F.df],fun t v ht=>F.get t v (hsub.look t v ht)⟩
  have:=h2 _ F';cases jump <;> exact this
theorem calls_enterM {f:FuncId} {fn:Func} {c:Code} {args:List Value} {w:World} {R:Ending→World→Prop} (hf:P.funcs[f]? = some fn) (hb:fn.body=some c) {m:Nat} (hn:fn.ntmps=m) (hl:args.length≤m)
  (h:∀ a,Fr ⟨m,[]⟩ a (argE 0 args)→c.wpIn (RW Option.none) 0 P (bodyPostM (RW Option.none) 0 P fn R) a w):Calls P f args.toArray w R:=by
 refine Zn.1 (callsIn_of_wp_marks (F:=RW Option.none) (n:=0) hf hb trivial ?_);rw [hn];exact h _ (Fr.enter hl)
theorem leaves_end {fn:Func} {tm:Array Value} {R:Ending→World→Prop} {a:Act} {rs:List ResultVar} (vs:List Value) (F:Fr n a e) (ht:tm=a.tmps) (hr:fn.results=rs.toArray) (h:Qx P e w rs vs) (hR:R (.returned (pack vs)) w) :
  LeavesInM (RW Option.none) 0 P fn tm R [] .returning w:=by
 subst ht;obtain ⟨_,h⟩:=post_ret vs F hr h hR;exact h
theorem post_retM {fn:Func} {R:Ending→World→Prop} {a:Act} {m:Nat} {rs:List ResultVar} (vs:List Value) (F:Fr ⟨m,[mkD D]⟩ a e) (S:St g cks fr w) (k:Nat) (hk:cks[k]? = some [(D,.deferred (some []))]) (hr:fn.results=rs.toArray)
  (h:∀ w',St g (cks.set k []) fr w'→Qx P e w' rs vs) (hR:∀ w',St g (cks.set k []) fr w'→R (.returned (pack vs)) w'):LeavesInM (RW Option.none) 0 P fn a.tmps R a.defers .returning w:=by
 have hb:=S.heap k hk;rw [show a.defers=[mkD D] from F.df];have S2:=(set_obj (y:=.deferred Option.none) S hk).lose k;rw [List.set_set] at S2;refine ⟨by simp,.inl ⟨D,_,rfl,?_,leaves_end vs F rfl hr (h _ S2) (hR _ S2)⟩⟩
 simp only [Instr.takeDeferred,Sem.run_bind];have h1:(getObj D).run P w=.ok (.deferred (some [])) w:=by simp [getObj,Sem.run,hb]
 rw [h1];simp only [Result.andThen_ok,Sem.run_bind];rw [Xy hb (by intro c t f;simp)]
 simp
theorem post_rM {fn:Func} {R:Ending→World→Prop} {a:Act} {m:Nat} {rs:List ResultVar} (vs:List Value) (F:Fr ⟨m,[mkD D]⟩ a e) (S:St g cks fr w) (k:Nat) (hk:cks[k]? = some [(D,.deferred (some []))]) (hr:fn.results=rs.toArray)
  (h:∀ w',St g (cks.set k []) fr w'→Qx P e w' rs vs) (hR:∀ w',St g (cks.set k []) fr w'→R (.returned (pack vs)) w'):bodyPostM (RW Option.none) 0 P fn R .ret a w:=post_retM vs F S k hk hr h hR
theorem post_r0 {fn:Func} {R:Ending→World→Prop} {a:Act} {m:Nat} {rs:List ResultVar} (vs:List Value) (F:Fr ⟨m,[]⟩ a e) (hr:fn.results=rs.toArray) (h:Qx P e w rs vs) (hR:R (.returned (pack vs)) w):bodyPostM (RW Option.none) 0 P fn R .ret a w:=by
 show LeavesInM _ _ _ _ _ _ a.defers _ _;rw [show a.defers=[] from F.df];exact leaves_end vs F rfl hr h hR
end Go.Dc
