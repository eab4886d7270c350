import Derived.Test.YtfpbdmldeikfbaaGreatDoorDcN
import Derived.Test.YtfpbdmldeikfbaaGreatDoorDcL
import Derived.KernelRfl
set_option linter.unusedSimpArgs false
set_option linter.unusedVariables false
namespace Go.Dc
open Go
variable {P : Program} {ρ : Option Nat} {n : Fw} {e : List (Nat × Value)} {C : World → Prop}
def Vp (ops:List Oper) (i:Nat):Option Nat:=(ops[i]?).bind (·.dst)
def okV (ops:List Oper) (NS:List Nat):Bool :=
 let N:=ops.length;let clo:=Wc [] ops;let edges:=ops.map Nn;let looks:=ops.map (Oper.looksAt ops.toArray);let dsts:=ops.map (·.dst)
 Region.noSelect ops.toArray && ops.all (fun o=>match o.op with | .defer _=>false | _=>true) &&
 (List.range N).all (fun i=>(edges.getD i []).all fun j=>Nat.blt j i) &&
 (List.range N).all (fun i=>match dsts.getD i Option.none with
  | some d=>if NS.contains i then (List.range N).all fun j=>NS.contains j || (clo.getD j []).contains i || (clo.getD i []).contains j || !(looks.getD j []).contains d
   else (List.range N).all fun j=>(Nat.beq i j || !(dsts.getD j Option.none == some d)) && ((clo.getD j []).contains i || !(looks.getD j []).contains d)
  | Option.none=>true)
def Q6 (ops:List Oper) (D:List Nat) (i:Nat):Bool:=!D.contains i && match ops[i]? with | some o=>(Nn o).all D.contains | Option.none=>false
def okAlone (ops:List Oper) (D R:List Nat):Bool:=R.all (Q6 ops D) && (List.range ops.length).all fun j=>R.contains j || D.contains j || match ops[j]? with | some o=>(Nn o).any fun q=>!D.contains q | Option.none=>true
def okAll (ops:List Oper) (D:List Nat):Bool:=(List.range ops.length).all D.contains
def V5 (ops:List Oper) (U:List (Nat×Value)) (a:Act):Act:=U.foldl (fun a p=>a.put (Vp ops p.1) p.2) a
def Yl (P:Program) (ops:List Oper) (p:Nat×Value) (a:Act) (w:World):Prop :=
 ∃ o,ops[p.1]? = some o∧(Region.wanted o (yielded ops.toArray a.tmps)=true→(execOp a.eval o).run P w=.ok (.value p.2) w)∧(Region.wanted o (yielded ops.toArray a.tmps)=false→p.2=undef)
def Pend (P:Program) (ops:List Oper) (a:Act) (w:World):List (Nat×Value)→Prop
 | []=>True
 | p::r=>Yl P ops p a w∧Pend P ops a w r
theorem Pend.get {ops:List Oper} {a:Act} {w:World}:∀ {l:List (Nat×Value)},Pend P ops a w l→∀ p∈l,Yl P ops p a w
 | [],_,p,hp=>by cases hp
 | q::r,h,p,hp=>by
  rcases Bf.1 hp with rfl | hp
  ·exact h.1
  ·exact Pend.get h.2 p hp
structure RS (P:Program) (ops:List Oper) (NS:List Nat) (D:List Nat) (pend:List (Nat×Value)) (a:Act) (w:World) (listed:Array Bool) (a0:Act) (U:List (Nat×Value)):Prop where
 sz:listed.size=ops.length
 und:(U.map (·.1)).Nodup
 uin:∀ p∈U,p.1∈D
 uq:∀ p∈U,p.1 ∉ NS
 lst:∀ j,listed.getD j false=true↔j∈D∧j ∉ U.map (·.1)
 dn:∀ j o,ops[j]? = some o→listed.getD j false=true→∀ q∈Nn o,listed.getD q false=true
 eq:a=V5 ops U a0
 yl:∀ p∈U,(p∈pend∧Yl P ops p a w)∨∀ w,Yl P ops p a w
def left (ops:List Oper) (listed:Array Bool):Nat:=(List.range ops.length).countP fun j=>!listed.getD j false
def Dc (ops:List Oper) (D:List Nat):Prop:=(∀ j∈D,j < ops.length)∧∀ j∈D,∀ o,ops[j]? = some o→∀ q∈Nn o,q∈D
def DV (P:Program) (ρ:Option Nat) (ops:List Oper) (NS:List Nat) (Q:Exit→Act→World→Prop) (D:List Nat) (pend:List (Nat×Value)) (a:Act) (w:World):Prop :=
 Dc ops D→∀ (fuel:Nat) (listed:Array Bool) (a0:Act) (U:List (Nat×Value)),RS P ops NS D pend a w listed a0 U→left ops listed≤fuel→wpAnyIn (RW ρ) 0 P .any ops.toArray Q fuel listed a0 w
def DQ (P:Program) (ρ:Option Nat) (ops:List Oper) (NS:List Nat) (Q:Exit→Act→World→Prop) (D:List Nat) (pend:List (Nat×Value)):Exit→Act→World→Prop :=
 fun en a w=>en=.normal∧Pend P ops a w pend∧DV P ρ ops NS Q D pend a w
structure OkV (ops:List Oper) (NS:List Nat):Prop where
 sel:∀ o∈ops,∀ cs b,o.op≠.select cs b
 nodef:∀ o∈ops,∀ c,o.op≠.defer c
 down:∀ i o,ops[i]? = some o→∀ j∈Nn o,j < i
 apart:∀ i d,i ∉ NS→Vp ops i=some d→∀ j o,ops[j]? = some o→(i≠j→o.dst≠some d)∧(i ∉ (Wc [] ops).getD j []→d ∉ o.looksAt ops.toArray)
 apn:∀ i d,Vp ops i=some d→∀ j o,ops[j]? = some o→j ∉ NS→i ∉ (Wc [] ops).getD j []→j ∉ (Wc [] ops).getD i []→d ∉ o.looksAt ops.toArray
theorem getD_map {α β:Type} {l:List α} {f:α→β} {i:Nat} {x:α} {z:β} (h:l[i]? = some x):(l.map f).getD i z=f x:=by
 simp [List.getD_eq_getElem?_getD,h]
theorem Uq {α:Type} {l:List α} {i:Nat} {x:α} (h:l[i]? = some x):i < l.length:=by
 rcases Ec i l.length with h' | h'
 ·exact h'
 ·simp [List.getElem?_eq_none h'] at h
theorem OkV.of {ops:List Oper} {NS:List Nat} (h:okV ops NS=true):OkV ops NS:=by
 simp only [okV,Cv,List.all_eq_true,List.mem_range] at h;obtain ⟨⟨⟨h4,h8⟩,h5⟩,h7⟩:=h
 have key:∀ i d,Vp ops i=some d→∀ j o,ops[j]? = some o→(i∈NS→j∈NS∨i∈(Wc [] ops).getD j []∨j∈(Wc [] ops).getD i []∨d ∉ o.looksAt ops.toArray)∧(i ∉ NS→(i≠j→o.dst≠some d)∧(i ∉ (Wc [] ops).getD j []→d ∉ o.looksAt ops.toArray)):=by
  intro i d hd j o ho;obtain ⟨oi,hoi,hdi⟩:=Option.bind_eq_some_iff.1 hd;have:=h7 i (Uq hoi);rw [getD_map hoi,hdi] at this;simp only at this;split at this
  ·rename_i hn
   simp only [List.all_eq_true,List.mem_range] at this;have:=this j (Uq ho);rw [getD_map ho] at this;simp only [Gd,List.contains_eq_mem,Bs,Bool.not_eq_true',Ep] at this;simp only [List.contains_eq_mem,Bs] at hn;refine ⟨fun _=>?_,fun h=>absurd hn h⟩;rcases this with ((h | h) | h) | h
   ·exact .inl h
   ·exact .inr (.inl h)
   ·exact .inr (.inr (.inl h))
   ·exact .inr (.inr (.inr h))
  ·rename_i hn
   simp only [List.all_eq_true,List.mem_range] at this;have:=this j (Uq ho);rw [getD_map ho,getD_map ho] at this;simp only [Cv,Gd,Nat.beq_eq,Bool.not_eq_true',beq_eq_false_iff_ne,List.contains_eq_mem,Bs,Ep] at this;simp only [List.contains_eq_mem,Bs] at hn;exact ⟨fun h=>absurd h hn,fun _=>⟨fun hne=>this.1.resolve_left hne,fun hc=>this.2.resolve_left hc⟩⟩
 refine ⟨?_,?_,?_,fun i d hn hd j o ho=>(key i d hd j o ho).2 hn,?_⟩
 ·intro o ho;obtain ⟨i,hi⟩:=List.mem_iff_getElem?.1 ho;intro cs b;exact Region.noSelect_spec h4 i o cs b (by simpa using hi)
 ·intro o ho c hc;have:=h8 o ho;rw [hc] at this;cases this
 ·intro i o ho j hj;have:=h5 i (Uq ho) j (by rw [getD_map ho];exact hj)
  simpa using this
 ·intro i d hd j o ho hj hc hc2;by_cases hn:i∈NS
  ·rcases (key i d hd j o ho).1 hn with h | h | h | h
   ·exact absurd h hj
   ·exact absurd h hc
   ·exact absurd h hc2
   ·exact h
  ·exact ((key i d hd j o ho).2 hn).2 hc
theorem puts_append (ops:List Oper) (U V:List (Nat×Value)) (a:Act):V5 ops (U++V) a=V5 ops V (V5 ops U a):=by simp [V5]
theorem put_comm {a:Act} {x y:Option Nat} {u v:Value} (h:∀ d,x=some d→y≠some d):(a.put x u).put y v=(a.put y v).put x u:=by
 cases x with
 | none=>rfl
 | some d =>
  cases y with
  | none=>rfl
  | some q =>
   have hne:d≠q:=fun e=>h d rfl (by rw [e])
   simp only [Act.put];rw [Array.setIfInBounds_comm _ _ hne]
theorem puts_put {ops:List Oper} {x:Option Nat} {v:Value}:∀ {U:List (Nat×Value)} {a:Act},(∀ p∈U,∀ d,Vp ops p.1=some d→x≠some d)→V5 ops U (a.put x v)=(V5 ops U a).put x v
 | [],_,_=>rfl
 | p::U,a,h=>by
  simp only [V5,Hg];rw [← put_comm (h p (by simp))]
  exact puts_put fun q hq=>h q (by simp [hq])
theorem same_puts {ops:List Oper} {NS:List Nat} (ok:OkV ops NS) {j:Nat} {o:Oper} (ho:ops[j]? = some o):∀ {U:List (Nat×Value)} {a:Act},(∀ p∈U,p.1 ∉ NS)→(∀ p∈U,p.1 ∉ (Wc [] ops).getD j []) →
  execOp (V5 ops U a).eval o=execOp a.eval o∧Region.wanted o (yielded ops.toArray (V5 ops U a).tmps)=Region.wanted o (yielded ops.toArray a.tmps)
 | [],_,_,_=>⟨rfl,rfl⟩
 | p::U,a,hq0,h=>by
  have hp:∀ d,Vp ops p.1=some d→d ∉ o.looksAt ops.toArray:=fun d hd=>(ok.apart p.1 d (hq0 p (by simp)) hd j o ho).2 (h p (by simp))
  have ih:=same_puts ok ho (U:=U) (a:=a.put (Vp ops p.1) p.2) (fun q hq=>hq0 q (by simp [hq])) fun q hq=>h q (by simp [hq])
  simp only [V5,Hg] at ih ⊢;rw [ih.1,ih.2];exact ⟨execOp_put o (ok.sel o (List.mem_of_getElem? ho)) a _ p.2 hp,wanted_put o a _ p.2 hp⟩
theorem run_value {o:Oper} {Q:Exit→Act→World→Prop} {K:Act→World→Prop} {a:Act} {w:World} {v:Value} (hd:∀ c,o.op≠.defer c) (hr:(execOp a.eval o).run P w=.ok (.value v) w) (hK:K (a.put o.dst v) w) :
  o.wpIn (RW ρ) 0 P a w K Q:=by
 refine ⟨fun _ _=>trivial,?_⟩;rw [Oper.semAt_eq _ _ _ hd,hr];exact hK
theorem puts_defers {ops:List Oper} {ds:List Deferred}:∀ {U:List (Nat×Value)} {a:Act},V5 ops U { a with defers:=ds }={ V5 ops U a with defers:=ds }
 | [],_=>rfl
 | p::U,a=>by
  simp only [V5,Hg];rw [show ({ a with defers:=ds }:Act).put (Vp ops p.1) p.2={ a.put (Vp ops p.1) p.2 with defers:=ds } from by cases Vp ops p.1 <;> rfl]
  exact puts_defers
theorem wpIn_puts {ops:List Oper} {NS:List Nat} (ok:OkV ops NS) {j:Nat} {o:Oper} (ho:ops[j]? = some o) {U:List (Nat×Value)} {a:Act} {w:World} {K K':Act→World→Prop}
  (hq0:∀ p∈U,p.1 ∉ NS) (hU:∀ p∈U,p.1 ∉ (Wc [] ops).getD j []) (hne:∀ p∈U,p.1≠j)
  (hK:∀ ds v w',K (({ V5 ops U a with defers:=ds }:Act).put o.dst v) w'→V5 ops U (({ a with defers:=ds }:Act).put o.dst v)=({ V5 ops U a with defers:=ds }:Act).put o.dst v→K' (({ a with defers:=ds }:Act).put o.dst v) w')
  (h:o.wpIn (RW ρ) 0 P (V5 ops U a) w K (fun _ _ _=>False)) (Q:Exit→Act→World→Prop):o.wpIn (RW ρ) 0 P a w K' Q:=by
 have hnd:=ok.nodef o (List.mem_of_getElem? ho);refine ⟨fun _ _=>trivial,?_⟩;have h2:=h.2;rw [Oper.semAt_eq _ _ _ hnd,(same_puts ok ho hq0 hU).1] at h2;rw [Oper.semAt_eq _ _ _ hnd];have hdst:∀ p∈U,∀ d,Vp ops p.1=some d→o.dst≠some d:=fun p hp d hd=>(ok.apart p.1 d (hq0 p hp) hd j o ho).1 (hne p hp)
 have hdf:∀ (U:List (Nat×Value)) (a:Act),(V5 ops U a).defers=a.defers:=by
  intro U
  induction U with
  | nil=>intro a;rfl
  | cons p U ih=>intro a;simp only [V5,Hg] at ih ⊢;rw [ih];cases Vp ops p.1 <;> rfl
 have key:∀ ds v w',K (({ V5 ops U a with defers:=ds }:Act).put o.dst v) w'→K' (({ a with defers:=ds }:Act).put o.dst v) w':=fun ds v w' hk=>hK ds v w' hk (by rw [puts_put hdst,puts_defers])
 have key1:∀ v w',K ((V5 ops U a).put o.dst v) w'→K' (a.put o.dst v) w':=fun v w' hk=>key a.defers v w' (by rw [← hdf U a];exact hk)
 generalize hr:(execOp a.eval o).run P w=r at h2 ⊢;cases r with
 | halt x w'=>cases x <;> simp only [Oper.uponIn] at h2 ⊢
 | ok x w' =>
  cases x with
  | value v=>exact key1 v w' h2
  | skip=>exact key1 undef w' h2
  | enter f args =>
   refine ⟨h2.1,h2.2.mono ?_⟩;intro en w'' hh;cases en with
   | returned v=>exact key1 v w'' hh
   | panicked ch=>exact hh.elim
   | outgrown=>obtain ⟨_,_,hf⟩:=hh;exact hf.elim
  | row row args=>exact ⟨h2.1,h2.2.mono fun v w'' hh=>key1 v w'' hh⟩
  | round l f tmps assign body =>
   refine ⟨h2.1,h2.2.mono ?_⟩;intro en w'' hh;cases en with
   | returned v=>exact key1 v w'' hh
   | panicked ch=>exact hh.elim
   | outgrown=>obtain ⟨_,_,hf⟩:=hh;exact hf.elim
  | defer d =>
   have hk:=key (d::a.defers) undef w';rw [← hdf U a] at hk;refine (fun h3=>?_) (hk h2);rw [hdf U a] at h3;exact h3
  | _=>exact h2
theorem yl_put {ops:List Oper} {NS:List Nat} (ok:OkV ops NS) {o:Oper} {p:Nat×Value} {a:Act} {w:World} {ds:List Deferred} {v:Value} (hl0:∀ d,o.dst=some d→∀ op,ops[p.1]? = some op→d ∉ op.looksAt ops.toArray) (h:Yl P ops p a w):Yl P ops p (({ a with defers:=ds }:Act).put o.dst v) w:=by
 obtain ⟨op,hop,h1,h2⟩:=h;have hl:∀ d,o.dst=some d→d ∉ op.looksAt ops.toArray:=fun d hd=>hl0 d hd op hop;have e1:execOp (({ a with defers:=ds }:Act).put o.dst v).eval op=execOp a.eval op:=execOp_put op (ok.sel op (List.mem_of_getElem? hop)) { a with defers:=ds } o.dst v hl;have e2:Region.wanted op (yielded ops.toArray (({ a with defers:=ds }:Act).put o.dst v).tmps)=Region.wanted op (yielded ops.toArray a.tmps):=wanted_put op { a with defers:=ds } o.dst v hl;exact ⟨op,hop,by rw [e1,e2];exact h1,by rw [e2];exact h2⟩
theorem next_spec {ops:List Oper} {D:List Nat} {i:Nat} {o:Oper} (ho:ops[i]? = some o) (h:Q6 ops D i=true):i ∉ D∧∀ q∈Nn o,q∈D:=by
 simp only [Q6,ho,Cv,Bool.not_eq_true',List.contains_eq_mem,Ep,List.all_eq_true,Bs] at h;exact h
theorem Dc.cons {ops:List Oper} {D:List Nat} {i:Nat} {o:Oper} (h:Dc ops D) (ho:ops[i]? = some o) (he:∀ q∈Nn o,q∈D):Dc ops (i::D):=by
 refine ⟨fun j hj=>?_,fun j hj oj hoj q hq=>?_⟩
 ·rcases Bf.1 hj with rfl | hj
  ·exact Uq ho
  ·exact h.1 j hj
 ·rcases Bf.1 hj with rfl | hj
  ·rw [ho] at hoj;cases hoj;exact Bk _ (he q hq)
  ·exact Bk _ (h.2 j hj oj hoj q hq)
theorem clo_done {ops:List Oper} {NS:List Nat} (ok:OkV ops NS) {D:List Nat} (hD:Dc ops D):∀ j,j∈D→∀ q,q∈(Wc [] ops).getD j []→q∈D:=by
 intro j
 induction j using Nat.strongRecOn with
 | _ j ih =>
  intro hj q hq;have hoj:ops[j]? = some (ops[j]'(hD.1 j hj)):=A3 (hD.1 j hj);have:=cloF_spec ops [] j _ hoj (by intro x hx;simpa using ok.down j _ hoj x hx) q (by simpa using hq)
  obtain ⟨x,hx,h⟩:=this;have hxd:=hD.2 j hj _ hoj x hx;rcases h with rfl | h
  ·exact hxd
  ·exact ih x (ok.down j _ hoj x hx) hxd q h
theorem DV.act {ops:List Oper} {NS:List Nat} {D:List Nat} {Q:Exit→Act→World→Prop} {i:Nat} {pend pend':List (Nat×Value)} {a:Act} {w:World} {o:Oper} {v:Value} (ok:OkV ops NS) (ho:ops[i]? = some o) (hi:Q6 ops D i=true) (hq:NS.contains i=false)
  (hy:((i,v)∈pend'∧Yl P ops (i,v) a w)∨∀ w,Yl P ops (i,v) a w) (hp:∀ p∈pend,p∈pend') (h:DV P ρ ops NS Q (i::D) pend' (a.put o.dst v) w):DV P ρ ops NS Q D pend a w:=by
 rintro hD fuel listed a0 U ⟨hsz,hUn,hU,hUq,hl,hdn,ha,hY⟩ hf;have hq:i ∉ NS:=by simpa using hq
 obtain ⟨hid,hie⟩:=next_spec ho hi;have hdst:Vp ops i=o.dst:=by simp [Vp,ho]
 have hiU:i ∉ U.map (·.1):=fun hm=>by obtain ⟨p,hp,rfl⟩:=G9.1 hm;exact hid (hU p hp)
 have ncl:∀ j∈D,i ∉ (Wc [] ops).getD j []:=fun j hj hc=>hid (clo_done ok hD j hj i hc)
 have nself:i ∉ (Wc [] ops).getD i []:=by
  intro hc;have:=cloF_spec ops [] i _ ho (by intro x hx;simpa using ok.down i _ ho x hx) i (by simpa using hc)
  obtain ⟨x,hx,h⟩:=this;have hxd:=hie x hx;rcases h with rfl | h
  ·exact hid hxd
  ·exact hid (clo_done ok hD x hxd i h)
 have tr:∀ p:Nat×Value,i ∉ (Wc [] ops).getD p.1 []→∀ w,Yl P ops p a w→Yl P ops p (a.put o.dst v) w:=fun p hc w hy=>yl_put (ds:=a.defers) ok (fun d hd op hop=>(ok.apart i d hq (by rw [hdst,hd]) p.1 op hop).2 hc) hy
 refine h (hD.cons ho hie) fuel listed a0 ((i,v)::U) ⟨hsz,?_,?_,?_,?_,hdn,?_,?_⟩ hf
 ·exact List.nodup_cons.2 ⟨hiU,hUn⟩
 ·intro p hp;rcases Bf.1 hp with rfl | h'
  ·exact Ce
  ·exact Bk _ (hU p h')
 ·intro p hp;rcases Bf.1 hp with rfl | h'
  ·exact hq
  ·exact hUq p h'
 ·intro j;rw [hl j];simp only [Dg,Bf,not_or];constructor
  ·rintro ⟨h1,h2⟩;exact ⟨.inr h1,fun e=>hid (e ▸ h1),h2⟩
  ·rintro ⟨h1,h2,h3⟩;exact ⟨h1.resolve_left h2,h3⟩
 ·have hne:∀ p∈U,∀ d,Vp ops p.1=some d→o.dst≠some d:=fun p hp d hd=>(ok.apart p.1 d (hUq p hp) hd i o ho).1 (fun e=>hiU (G9.2 ⟨p,hp,e⟩));rw [ha,← puts_put hne];simp [V5,hdst]
 ·intro p hp';rcases Bf.1 hp' with rfl | h'
  ·rcases hy with ⟨h1,h2⟩ | h2
   ·exact .inl ⟨h1,tr (i,v) nself w h2⟩
   ·exact .inr fun w=>tr (i,v) nself w (h2 w)
  ·have hc:=ncl p.1 (hU p h');rcases hY p h' with ⟨h1,h2⟩ | h2
   ·exact .inl ⟨hp p h1,tr p hc w h2⟩
   ·exact .inr fun w=>tr p hc w (h2 w)
theorem countP_lt {l:List Nat} {p q:Nat→Bool} (h:∀ k∈l,p k=true→q k=true) (hx:∃ k∈l,q k=true∧p k=false):l.countP p < l.countP q:=by
 induction l with
 | nil=>obtain ⟨k,hk,_⟩:=hx;cases hk
 | cons x r ih =>
  have hmono:r.countP p≤r.countP q:=List.countP_mono_left fun k hk=>h k (by simp [hk])
  obtain ⟨k,hk,h1,h2⟩:=hx;rw [List.countP_cons,List.countP_cons];rcases Bf.1 hk with rfl | hk
  ·rw [Ad h1,h2];simp;omega
  ·have:=ih (fun k hk=>h k (by simp [hk])) ⟨k,hk,h1,h2⟩
   have hx2:=h x (by simp)
   cases hpx:p x with
   | true=>rw [hx2 hpx];simp;exact this
   | false=>simp;split <;> omega
theorem getD_set {l:Array Bool} {i j:Nat} (hi:i < l.size):(l.setIfInBounds i true).getD j false=(decide (j=i) || l.getD j false):=by
 by_cases h:j=i
 ·subst h;simp [Array.getD_eq_getD_getElem?,hi]
 ·simp [Array.getD_eq_getD_getElem?,h,Ne.symm h]
theorem left_lt {ops:List Oper} {l:Array Bool} {i:Nat} (hs:l.size=ops.length) (hi:i < ops.length) (hl:l.getD i false=false):left ops (l.setIfInBounds i true) < left ops l:=by
 have hi':i < l.size:=by omega
 refine countP_lt ?_ ⟨i,List.mem_range.2 hi,by simp [hl],by simp [getD_set hi']⟩
 intro k _ hk;rw [getD_set hi'] at hk;simp only [Bool.not_eq_true',Bool.or_eq_false_iff] at hk ⊢;exact hk.2
theorem ready_spec {ops:List Oper} {l:Array Bool} {i:Nat} (hs:l.size=ops.length) (h:i∈Region.ready .any ops.toArray l):∃ o,ops[i]? = some o∧i < ops.length∧l.getD i false=false∧∀ q∈Nn o,l.getD q false=true:=by
 rw [mem_ready] at h;obtain ⟨h1,o,ho,hall⟩:=h;have ho':ops[i]? = some o:=by simpa using ho
 have hi:=Uq ho';refine ⟨o,ho',hi,?_,?_⟩
 ·have:i < l.size:=by omega
  simp only [Array.getD_eq_getD_getElem?,Array.getElem?_eq_getElem this,Option.getD_some] at h1 ⊢;exact h1
 ·intro q hq;simp only [Nn,G9,Gt] at hq;obtain ⟨x,⟨hx,hb⟩,rfl⟩:=hq;exact hall x (by simpa using hx) hb
theorem ready_of {ops:List Oper} {l:Array Bool} {i:Nat} {o:Oper} (hs:l.size=ops.length) (ho:ops[i]? = some o) (hl:l.getD i false=false) (he:∀ q∈Nn o,l.getD q false=true):i∈Region.ready .any ops.toArray l:=by
 rw [mem_ready];have hi:i < l.size:=by rw [hs];exact Uq ho
 refine ⟨?_,o,by simpa using ho,?_⟩
 ·simp only [Array.getD_eq_getD_getElem?,Array.getElem?_eq_getElem hi,Option.getD_some] at hl ⊢;exact hl
 ·intro x hx hb;refine he x.on ?_;simp only [Nn,G9,Gt];exact ⟨x,⟨by simpa using hx,hb⟩,rfl⟩
theorem RS.anc {ops:List Oper} {NS:List Nat} {D:List Nat} (ok:OkV ops NS) {pend U:List (Nat×Value)} {a a0:Act} {w:World} {listed:Array Bool} (r:RS P ops NS D pend a w listed a0 U) :
  ∀ (i:Nat) (o:Oper),ops[i]? = some o→(∀ q∈Nn o,listed.getD q false=true)→∀ q,q∈(Wc [] ops).getD i []→listed.getD q false=true:=by
 intro i
 induction i using Nat.strongRecOn with
 | _ i ih =>
  intro o ho he q hq;have:=cloF_spec ops [] i o ho (by intro x hx;simpa using ok.down i o ho x hx) q (by simpa using hq)
  obtain ⟨x,hx,h⟩:=this;have hxl:=he x hx;rcases h with rfl | h
  ·exact hxl
  ·have hxi:=ok.down i o ho x hx;have hxN:x < ops.length:=Nat.lt_trans hxi (Uq ho);have hox:ops[x]? = some ops[x]:=A3 hxN;exact ih x hxi _ hox (r.dn x _ hox hxl) q h
theorem notin_of {U:List (Nat×Value)} {i:Nat} (h:i ∉ U.map (·.1)):∀ p∈U,p.1≠i:=fun p hp e=>h (G9.2 ⟨p,hp,e⟩)
theorem RS.exec {ops:List Oper} {NS:List Nat} {D:List Nat} (ok:OkV ops NS) {pend U:List (Nat×Value)} {a a0:Act} {w:World} {listed:Array Bool} (r:RS P ops NS D pend a w listed a0 U) {i:Nat} (hi:i∈Region.ready .any ops.toArray listed) (hU:i∈U.map (·.1))
  {Q:Exit→Act→World→Prop} {K:Act→World→Prop} (hK:∀ a1 U',RS P ops NS D pend a w (listed.setIfInBounds i true) a1 U'→K a1 w):wpOpIn (RW ρ) 0 P ops.toArray Q i K a0 w:=by
 obtain ⟨o,ho,hil,hlf,hed⟩:=ready_spec r.sz hi;obtain ⟨⟨i',v⟩,hm,rfl⟩:=G9.1 hU;simp only at *;have hanc:=r.anc ok i' o ho hed;have hUc:∀ p∈U,p.1 ∉ (Wc [] ops).getD i' []:=fun p hp hc=>((r.lst p.1).1 (hanc p.1 hc)).2 (G9.2 ⟨p,hp,rfl⟩);have hsame:=same_puts ok ho (a:=a0) r.uq hUc;obtain ⟨U1,U2,rfl⟩:=List.append_of_mem hm;have hn:=r.und;rw [Hx,Dg,List.nodup_append] at hn;have hn1:i' ∉ U1.map (·.1):=fun h=>hn.2.2 i' h i' (by simp) rfl
 have hn2:i' ∉ U2.map (·.1):=(List.nodup_cons.1 hn.2.1).1;have hdst:Vp ops i'=o.dst:=by simp [Vp,ho]
 have hne:∀ p∈U1,∀ d,Vp ops p.1=some d→o.dst≠some d:=fun p hp d hd=>(ok.apart p.1 d (r.uq p (by simp [hp])) hd i' o ho).1 (notin_of hn1 p hp)
 have hputs:V5 ops (U1++(i',v)::U2) a0=V5 ops (U1++U2) (a0.put o.dst v):=by
  rw [puts_append,puts_append,puts_put hne];simp [V5,hdst]
 have hy:Yl P ops (i',v) a w:=by
  rcases r.yl (i',v) hm with ⟨_,h⟩ | h
  ·exact h
  ·exact h w
 obtain ⟨o',ho',hy1,hy2⟩:=hy;rw [ho] at ho';cases ho'
 have hst:RS P ops NS D pend a w (listed.setIfInBounds i' true) (a0.put o.dst v) (U1++U2):=by
  have hil':i' < listed.size:=by rw [r.sz];exact hil
  have hsub:∀ p∈U1++U2,p∈U1++(i',v)::U2:=by
   intro p hp;rcases Az.1 hp with h | h
   ·exact D4 _ h
   ·exact Es _ (Bk _ h)
  refine ⟨by simp [r.sz],?_,fun p hp=>r.uin p (hsub p hp),fun p hp=>r.uq p (hsub p hp),?_,?_,by rw [r.eq,hputs],fun p hp=>r.yl p (hsub p hp)⟩
  ·rw [Hx,List.nodup_append];exact ⟨hn.1,(List.nodup_cons.1 hn.2.1).2,fun x hx y hy e=>hn.2.2 x hx y (by simp [hy]) e⟩
  ·intro j;rw [getD_set hil'];simp only [Gd,Bs,r.lst j,Hx,Dg,Az,Bf,not_or];constructor
   ·rintro (rfl | ⟨h1,h2,h3,h4⟩)
    ·exact ⟨r.uin (j,v) hm,hn1,hn2⟩
    ·exact ⟨h1,h2,h4⟩
   ·rintro ⟨h1,h2,h3⟩;by_cases h:j=i'
    ·exact .inl h
    ·exact .inr ⟨h1,h2,h,h3⟩
  ·intro j oj hoj hjl q hq;rw [getD_set hil'] at hjl ⊢;simp only [Gd,Bs] at hjl ⊢;rcases hjl with rfl | hjl
   ·rw [ho] at hoj;cases hoj;exact .inr (hed q hq)
   ·exact .inr (r.dn j oj hoj hjl q hq)
 have hk:=hK _ _ hst;unfold wpOpIn;rw [show ops.toArray[i']? = some o from by simpa using ho]
 simp only;rw [r.eq] at hy1 hy2;rw [hsame.1,hsame.2] at hy1;rw [hsame.2] at hy2;cases hw:Region.wanted o (yielded ops.toArray a0.tmps) with
 | true =>
  simp only [E4];exact run_value (ok.nodef o (List.mem_of_getElem? ho)) (hy1 hw) hk
 | false =>
  simp only [A6,Cg];have:=hy2 hw;simp only at this;subst this;exact ⟨fun _ _=>trivial,hk⟩
theorem RS.ready {ops:List Oper} {NS:List Nat} {D:List Nat} (hD:Dc ops D) (ok:OkV ops NS) {pend U:List (Nat×Value)} {a a0:Act} {w:World} {listed:Array Bool} (r:RS P ops NS D pend a w listed a0 U) (h:Region.ready .any ops.toArray listed=[]) :
  ∀ j,j∈D→listed.getD j false=true:=by
 intro j
 induction j using Nat.strongRecOn with
 | _ j ih =>
  intro hj;have hoj:ops[j]? = some (ops[j]'(hD.1 j hj)):=A3 (hD.1 j hj);cases hl:listed.getD j false with
  | true=>rfl
  | false =>
   have:=ready_of r.sz hoj hl fun q hq=>ih q (ok.down j _ hoj q hq) (hD.2 j hj _ hoj q hq);rw [h] at this;cases this
theorem DV.noisy {ops:List Oper} {NS:List Nat} {D R:List Nat} {Q:Exit→Act→World→Prop} {pend:List (Nat×Value)} {a:Act} {w:World} (ok:OkV ops NS) (hR:okAlone ops D R=true) (hR0:R≠[])
  (h:∀ i∈R,∀ o,ops[i]? = some o→∃ pend',(∀ p∈pend,p.1 ∉ (Wc [] ops).getD i []→p∈pend')∧wpListIn (RW ρ) 0 P ops.toArray (DQ P ρ ops NS Q (i::D) pend') [o] a w):DV P ρ ops NS Q D pend a w:=by
 intro hD fuel;simp only [okAlone,Cv,List.all_eq_true,List.mem_range] at hR;obtain ⟨hnx,hal⟩:=hR
 have hget:∀ i∈R,∃ o,ops[i]? = some o:=by
  intro i hi;cases ho:ops[i]? with
  | some o=>exact ⟨o,rfl⟩
  | none=>have:=hnx i hi;simp [Q6,ho] at this
 induction fuel with
 | zero =>
  intro listed a0 U r hf;exfalso;obtain ⟨i,R',rfl⟩:=List.exists_cons_of_ne_nil hR0;obtain ⟨o,ho⟩:=hget i (by simp)
  obtain ⟨hid,_⟩:=next_spec ho (hnx i (by simp))
  have hl:listed.getD i false=false:=by
   cases hl:listed.getD i false with
   | false=>rfl
   | true=>exact absurd ((r.lst i).1 hl).1 hid
  have h0:left ops listed=0:=by omega
  simp only [left,List.countP_eq_zero,List.mem_range] at h0;have:=h0 i (Uq ho);simp [hl] at this
 | succ fuel ih =>
  intro listed a0 U r hf;refine ⟨fun hr=>?_,fun j hj=>?_⟩
  ·exfalso;obtain ⟨i,R',rfl⟩:=List.exists_cons_of_ne_nil hR0;obtain ⟨o,ho⟩:=hget i (by simp)
   obtain ⟨hid,hie⟩:=next_spec ho (hnx i (by simp))
   have hl:listed.getD i false=false:=by
    cases hl:listed.getD i false with
    | false=>rfl
    | true=>exact absurd ((r.lst i).1 hl).1 hid
   have:=ready_of r.sz ho hl fun q hq=>r.ready hD ok hr q (hie q hq);rw [hr] at this;cases this
  ·obtain ⟨oj,hoj,hjl,hlf,hed⟩:=ready_spec r.sz hj;have hlt:=left_lt r.sz hjl hlf;by_cases hjU:j∈U.map (·.1)
   ·exact r.exec ok hj hjU fun a1 U' r'=>ih _ a1 U' r' (by omega)
   ·by_cases hji:j∈R
    ·obtain ⟨pend',hp,h⟩:=h j hji oj hoj;obtain ⟨hid,hie⟩:=next_spec hoj (hnx j hji);have ncl:∀ q∈D,j ∉ (Wc [] ops).getD q []:=fun q hq hc=>hid (clo_done ok hD q hq j hc);have hanc:=r.anc ok j oj hoj hed;have hUc:∀ p∈U,p.1 ∉ (Wc [] ops).getD j []:=fun p hp hc=>((r.lst p.1).1 (hanc p.1 hc)).2 (G9.2 ⟨p,hp,rfl⟩);have hUn:∀ p∈U,p.1≠j:=notin_of hjU;unfold wpOpIn;rw [show ops.toArray[j]? = some oj from by simpa using hoj]
     simp only;unfold wpListIn at h;have hsame:=same_puts ok hoj (a:=a0) r.uq hUc
     have hnext:∀ (a1:Act) (w':World),(∃ ds v,a1=({ a0 with defers:=ds }:Act).put oj.dst v∧V5 ops U a1=({ a with defers:=ds }:Act).put oj.dst v)→DQ P ρ ops NS Q (j::D) pend' .normal (V5 ops U a1) w'→wpAnyIn (RW ρ) 0 P .any ops.toArray Q fuel (listed.setIfInBounds j true) a1 w':=by
      rintro a1 w' ⟨ds,v,rfl,hpe⟩ ⟨_,hpd,hdv⟩;have hil':j < listed.size:=by rw [r.sz];exact hjl
      refine hdv (hD.cons hoj hie) fuel _ _ U ⟨by simp [r.sz],r.und,fun p hp=>Bk _ (r.uin p hp),r.uq,?_,?_,rfl,?_⟩ (by omega)
      ·intro q;rw [getD_set hil'];simp only [Gd,Bs,r.lst q,Bf];constructor
       ·rintro (rfl | ⟨h1,h2⟩)
        ·exact ⟨.inl rfl,hjU⟩
        ·exact ⟨.inr h1,h2⟩
       ·rintro ⟨h1 | h1,h2⟩
        ·exact .inl h1
        ·exact .inr ⟨h1,h2⟩
      ·intro q oq hoq hql x hx;rw [getD_set hil'] at hql ⊢;simp only [Gd,Bs] at hql ⊢;rcases hql with rfl | hql
       ·rw [hoj] at hoq;cases hoq;exact .inr (hed x hx)
       ·exact .inr (r.dn q oq hoq hql x hx)
      ·intro p hp';rcases r.yl p hp' with ⟨h1,_⟩ | h1
       ·have hm:=hp p h1 (hUc p hp');exact .inl ⟨hm,hpd.get p hm⟩
       ·refine .inr fun w''=>?_;rw [hpe];exact yl_put ok (fun d hd op hop=>ok.apn j d (by simp [Vp,hoj,hd]) p.1 op hop (r.uq p hp') (ncl p.1 (r.uin p hp')) (hUc p hp')) (h1 w'')
     have hae:=r.eq;by_cases hw:Region.wanted oj (yielded ops.toArray a.tmps)=true
     ·rw [Ad hw] at h;rw [Ad (by rw [← hsame.2,← hae];exact hw)]
      refine wpIn_puts ok hoj (K:=wpListIn (RW ρ) 0 P ops.toArray (DQ P ρ ops NS Q (j::D) pend') []) r.uq hUc hUn ?_ ?_ Q
      ·intro ds v w' hk hpe;refine hnext _ w' ⟨ds,v,rfl,by rw [hpe,hae]⟩ ?_
       rw [hpe];unfold wpListIn at hk;exact hk
      ·rw [← hae]
       have e:∀ (Q':Exit→Act→World→Prop),(∀ en a w,en≠.normal→¬ Q' en a w)→oj.wpIn (RW ρ) 0 P a w (wpListIn (RW ρ) 0 P ops.toArray (DQ P ρ ops NS Q (j::D) pend') []) Q'→oj.wpIn (RW ρ) 0 P a w (wpListIn (RW ρ) 0 P ops.toArray (DQ P ρ ops NS Q (j::D) pend') []) (fun _ _ _=>False):=by
        intro Q' hq hh;exact ⟨hh.1,uponIn_mono (fun _ _ x=>x) (fun en a w hne x=>hq en a w hne x) hh.2⟩
       exact e _ (fun en a w hne x=>hne x.1) h
     ·rw [Ac hw] at h;rw [Ac (by rw [← hsame.2,← hae];exact hw)]
      refine ⟨fun _ _=>trivial,?_⟩;have hdst:∀ p∈U,∀ d,Vp ops p.1=some d→oj.dst≠some d:=fun p hp d hd=>(ok.apart p.1 d (r.uq p hp) hd j oj hoj).1 (hUn p hp);have hpe:V5 ops U (a0.put oj.dst undef)=a.put oj.dst undef:=by rw [puts_put hdst,← hae]
      have h2:=h.2;unfold wpListIn at h2;refine hnext _ w ⟨a0.defers,undef,rfl,?_⟩ (by rw [hpe];exact h2)
      rw [hpe]
      have hdf:a.defers=a0.defers:=by
       rw [hae]
       have:∀ (U:List (Nat×Value)) (a:Act),(V5 ops U a).defers=a.defers:=by
        intro U
        induction U with
        | nil=>intro a;rfl
        | cons p U ih=>intro a;simp only [V5,Hg] at ih ⊢;rw [ih];cases Vp ops p.1 <;> rfl
       exact this U a0
      rw [← hdf]
    ·exfalso
     have hjd:j ∉ D:=fun hjd=>by
      have:=(r.lst j).2 ⟨hjd,hjU⟩;rw [hlf] at this;cases this
     have:=hal j hjl;simp only [hoj,Gd,List.contains_eq_mem,Bs,Ke,Bool.not_eq_true',Ep] at this;rcases this with (h' | h') | ⟨q,hq,hqd⟩
     ·exact hji h'
     ·exact hjd h'
     ·exact hqd ((r.lst q).1 (hed q hq)).1
theorem DV.fin {ops:List Oper} {NS:List Nat} {D:List Nat} {Q:Exit→Act→World→Prop} {pend:List (Nat×Value)} {a:Act} {w:World} (ok:OkV ops NS) (hk:okAll ops D=true) (h:Q .normal a w):DV P ρ ops NS Q D pend a w:=by
 intro hD fuel
 have hall:∀ j,j < ops.length→j∈D:=by
  simp only [okAll,List.all_eq_true,List.mem_range,List.contains_eq_mem,Bs] at hk;exact hk
 have hfin:∀ (listed:Array Bool) (a0:Act) (U:List (Nat×Value)),RS P ops NS D pend a w listed a0 U→Region.ready .any ops.toArray listed=[]→Q .normal a0 w:=by
  intro listed a0 U r hr
  have hU:U=[]:=by
   cases U with
   | nil=>rfl
   | cons p U =>
    have h1:=r.uin p (by simp)
    have:=r.ready hD ok hr p.1 h1;exact absurd (by simp) ((r.lst p.1).1 this).2
  subst hU;have:=r.eq;simp only [V5,List.foldl_nil] at this;rw [← this];exact h
 induction fuel with
 | zero =>
  intro listed a0 U r hf
  have hr:Region.ready .any ops.toArray listed=[]:=by
   rw [List.eq_nil_iff_forall_not_mem];intro i hi;obtain ⟨o,ho,hil,hlf,_⟩:=ready_spec r.sz hi;have h0:left ops listed=0:=by omega
   simp only [left,List.countP_eq_zero,List.mem_range] at h0;have:=h0 i hil;simp [hlf] at this
  exact ⟨hr,hfin listed a0 U r hr⟩
 | succ fuel ih =>
  intro listed a0 U r hf;refine ⟨hfin listed a0 U r,fun j hj=>?_⟩;obtain ⟨oj,hoj,hjl,hlf,hed⟩:=ready_spec r.sz hj;have hlt:=left_lt r.sz hjl hlf;by_cases hjU:j∈U.map (·.1)
  ·exact r.exec ok hj hjU fun a1 U' r'=>ih _ a1 U' r' (by omega)
  ·exfalso;have:=(r.lst j).2 ⟨hall j hjl,hjU⟩;rw [hlf] at this;cases this
theorem Ot {id:Nat} {ops:List Oper} (NS:List Nat) {Q:Exit→Act→World→Prop} {a:Act} {w:World} {g:Gh} {cks:List Hl} {fr:Hl} (hm:P.follows .mixedOrders=true) (S:St g cks fr w)
  (h:OkV ops NS→∀ w,St g cks fr w→DV P ρ ops NS Q [] [] a w) (hok:okV ops NS=true:=by kernel_rfl):(Code.region id ops.toArray true).wpIn (RW ρ) 0 P Q a w:=by
 have ok:=OkV.of hok;refine wpIn_region_any hm ?_;refine h ok { w with drawn:=w.drawn+1 } (S.keep rfl rfl rfl rfl) ⟨(fun j hj=>by cases hj),fun j hj=>by cases hj⟩ _ _ a [] ?_ (Bx List.countP_le_length (by simp))
 refine ⟨by simp,List.nodup_nil,(fun p hp=>by cases hp),(fun p hp=>by cases hp),?_,?_,rfl,fun p hp=>by cases hp⟩
 ·intro j;simp [Array.getD_eq_getD_getElem?,Array.getElem?_replicate];split <;> simp
 ·intro j o _ hl;simp [Array.getD_eq_getD_getElem?,Array.getElem?_replicate] at hl;split at hl <;> simp at hl
variable {ops : List Oper} {NS : List Nat} {D : List Nat} {Q : Exit → Act → World → Prop} {d : Nat} {pend pend' : List (Nat × Value)} {a : Act} {w : World} {o : Oper} {v : Value} {i : Nat}
theorem yl_ev (ho:ops[i]? = some o) (hg:o.guard=Option.none) (hev:Ev P n e C o.op v) (F:Fr n a e) (hC:C w):Yl P ops (i,v) a w :=
 ⟨o,ho,fun _=>hev o a w rfl F hC,fun hw=>by rw [wn hg] at hw;cases hw⟩
theorem dv_ev (ok:OkV ops NS) (i:Nat) (ho:ops[i]? = some o) (hev:Ev P n e C o.op v) (F:Fr n a e) (hC:C w) (hd:o.dst=some d) (K:∀ a',Fr n a' ((d,v)::e)→DV P ρ ops NS Q (i::D) ((i,v)::pend) a' w)
  (hg:o.guard=Option.none:=by rfl) (hn:Nat.blt d n.sz=true:=by rfl) (hi:Q6 ops D i=true:=by kernel_rfl) (hq:NS.contains i=false:=by kernel_rfl):DV P ρ ops NS Q D pend a w :=
 DV.act ok ho hi hq (.inl ⟨Ce,yl_ev ho hg hev F hC⟩) (fun p hp=>Bk _ hp) (by rw [hd];exact K _ (F.put hn))
theorem K0 (ok:OkV ops NS) (i:Nat) (ho:ops[i]? = some o) (hev:Ev P n e (fun _=>True) o.op v) (F:Fr n a e) (hd:o.dst=some d) (K:∀ a',Fr n a' ((d,v)::e)→DV P ρ ops NS Q (i::D) pend a' w)
  (hg:o.guard=Option.none:=by rfl) (hn:Nat.blt d n.sz=true:=by rfl) (hi:Q6 ops D i=true:=by kernel_rfl) (hq:NS.contains i=false:=by kernel_rfl):DV P ρ ops NS Q D pend a w :=
 DV.act ok ho hi hq (.inr fun _=>yl_ev ho hg hev F trivial) (fun p hp=>hp) (by rw [hd];exact K _ (F.put hn))
theorem Mo (ok:OkV ops NS) (i:Nat) (ho:ops[i]? = some o) {j t:Nat} {want c:Bool} (hg:o.guard=some (j,want)) (hj:(ops[j]?).bind (·.dst)=some t) (ht:Nat.blt t n.sz=true) (hb:Kf e t=some (.bool c)) (hne:(c == want)=false) (F:Fr n a e) (hd:o.dst=some d) (hn:Nat.blt d n.sz=true)
  (K:∀ a',Fr n a' ((d,undef)::e)→DV P ρ ops NS Q (i::D) pend a' w) (hi:Q6 ops D i=true:=by kernel_rfl) (hq:NS.contains i=false:=by kernel_rfl):DV P ρ ops NS Q D pend a w:=by
 have hw:Region.wanted o (yielded ops.toArray a.tmps)=false:=by rw [wanted_of F hg (by simpa using hj) ht hb,hne]
 exact DV.act (v:=undef) ok ho hi hq (.inr fun _=>⟨o,ho,(fun h=>by rw [hw] at h;cases h),fun _=>rfl⟩) (fun p hp=>hp) (by rw [hd];exact K _ (F.put hn))
theorem dv_skipu (ok:OkV ops NS) (i:Nat) (ho:ops[i]? = some o) {j t:Nat} {want:Bool} (hg:o.guard=some (j,want)) (hj:(ops[j]?).bind (·.dst)=some t) (ht:Nat.blt t n.sz=true) (hb:Kf e t=some undef) (F:Fr n a e) (hd:o.dst=some d) (hn:Nat.blt d n.sz=true)
  (K:∀ a',Fr n a' ((d,undef)::e)→DV P ρ ops NS Q (i::D) pend a' w) (hi:Q6 ops D i=true:=by kernel_rfl) (hq:NS.contains i=false:=by kernel_rfl):DV P ρ ops NS Q D pend a w:=by
 have hw:Region.wanted o (yielded ops.toArray a.tmps)=false:=wanted_undef F hg (by simpa using hj) ht hb
 exact DV.act (v:=undef) ok ho hi hq (.inr fun _=>⟨o,ho,(fun h=>by rw [hw] at h;cases h),fun _=>rfl⟩) (fun p hp=>hp) (by rw [hd];exact K _ (F.put hn))
theorem yl_evg (ho:ops[i]? = some o) {j t:Nat} {want c:Bool} (hg:o.guard=some (j,want)) (hj:(ops[j]?).bind (·.dst)=some t) (ht:Nat.blt t n.sz=true) (hb:Kf e t=some (.bool c)) (hne:c=want) (hev:Ev P n e C o.op v) (F:Fr n a e) (hC:C w):Yl P ops (i,v) a w :=
 ⟨o,ho,fun _=>hev o a w rfl F hC,fun hw=>by rw [wanted_of F hg (by simpa using hj) ht hb,hne] at hw;simp at hw⟩
theorem dv_evg (ok:OkV ops NS) (i:Nat) (ho:ops[i]? = some o) {j t:Nat} {want c:Bool} (hg:o.guard=some (j,want)) (hj:(ops[j]?).bind (·.dst)=some t) (ht:Nat.blt t n.sz=true) (hb:Kf e t=some (.bool c)) (hne:c=want) (hev:Ev P n e C o.op v) (F:Fr n a e) (hC:C w) (hd:o.dst=some d) (hn:Nat.blt d n.sz=true)
  (K:∀ a',Fr n a' ((d,v)::e)→DV P ρ ops NS Q (i::D) ((i,v)::pend) a' w) (hi:Q6 ops D i=true:=by kernel_rfl) (hq:NS.contains i=false:=by kernel_rfl):DV P ρ ops NS Q D pend a w :=
 DV.act ok ho hi hq (.inl ⟨Ce,yl_evg ho hg hj ht hb hne hev F hC⟩) (fun p hp=>Bk _ hp) (by rw [hd];exact K _ (F.put hn))
theorem dv_etg (ok:OkV ops NS) (i:Nat) (ho:ops[i]? = some o) {j t:Nat} {want c:Bool} (hg:o.guard=some (j,want)) (hj:(ops[j]?).bind (·.dst)=some t) (ht:Nat.blt t n.sz=true) (hb:Kf e t=some (.bool c)) (hne:c=want) (hev:Ev P n e (fun _=>True) o.op v) (F:Fr n a e) (hd:o.dst=some d) (hn:Nat.blt d n.sz=true)
  (K:∀ a',Fr n a' ((d,v)::e)→DV P ρ ops NS Q (i::D) pend a' w) (hi:Q6 ops D i=true:=by kernel_rfl) (hq:NS.contains i=false:=by kernel_rfl):DV P ρ ops NS Q D pend a w :=
 DV.act ok ho hi hq (.inr fun _=>yl_evg ho hg hj ht hb hne hev F trivial) (fun p hp=>hp) (by rw [hd];exact K _ (F.put hn))
theorem filt (l l':List (Nat×Value)) (c:List Nat) (h:l.filter (fun p=>!c.contains p.1)=l'):∀ p∈l,p.1 ∉ c→p∈l':=by
 intro p hp hc;rw [← h,Gt];exact ⟨hp,by simpa using hc⟩
theorem Ka (ok:OkV ops NS) (i:Nat) (ho:ops[i]? = some o) (pend':List (Nat×Value)) (h:wpListIn (RW ρ) 0 P ops.toArray (DQ P ρ ops NS Q (i::D) pend') [o] a w)
  (hR:okAlone ops D [i]=true:=by kernel_rfl) (hp:pend.filter (fun p=>!((Wc [] ops).getD i []).contains p.1)=pend':=by kernel_rfl):DV P ρ ops NS Q D pend a w :=
 DV.noisy ok hR (by simp) fun j hj o' ho'=>by
  simp only [A2] at hj;subst hj;rw [ho] at ho';cases ho';exact ⟨pend',filt _ _ _ hp,h⟩
def Forks (P:Program) (ρ:Option Nat) (ops:List Oper) (NS:List Nat) (Q:Exit→Act→World→Prop) (D:List Nat) (pend:List (Nat×Value)) (a:Act) (w:World):List Nat→Prop
 | []=>True
 | i::r=>(∀ o,ops[i]? = some o→∃ pend',(∀ p∈pend,p.1 ∉ (Wc [] ops).getD i []→p∈pend')∧wpListIn (RW ρ) 0 P ops.toArray (DQ P ρ ops NS Q (i::D) pend') [o] a w)∧Forks P ρ ops NS Q D pend a w r
theorem Forks.get:∀ {R:List Nat},Forks P ρ ops NS Q D pend a w R→∀ i∈R,∀ o,ops[i]? = some o→∃ pend',(∀ p∈pend,p.1 ∉ (Wc [] ops).getD i []→p∈pend')∧wpListIn (RW ρ) 0 P ops.toArray (DQ P ρ ops NS Q (i::D) pend') [o] a w
 | [],_,i,hi=>by cases hi
 | j::R,h,i,hi=>by
  rcases Bf.1 hi with rfl | hi
  ·exact h.1
  ·exact h.2.get i hi
theorem H5 (hp:Pend P ops a w pend) (h:DV P ρ ops NS Q D pend a w):wpListIn (RW ρ) 0 P ops.toArray (DQ P ρ ops NS Q D pend) [] a w:=⟨rfl,hp,h⟩
theorem DV.same {D':List Nat} (hD:∀ x,x∈D↔x∈D') (h:DV P ρ ops NS Q D' pend a w):DV P ρ ops NS Q D pend a w:=by
 intro hd fuel listed a0 U r hf;refine h ⟨fun j hj=>hd.1 j ((hD j).2 hj),fun j hj o ho q hq=>(hD q).1 (hd.2 j ((hD j).2 hj) o ho q hq)⟩ fuel listed a0 U ⟨r.sz,r.und,fun p hp=>(hD _).1 (r.uin p hp),r.uq,fun j=>?_,r.dn,r.eq,r.yl⟩ hf;rw [r.lst j,hD j]
theorem dv_cut (D':List Nat) (pend':List (Nat×Value)) (J:Act→World→Prop) (h1:(∀ a w,J a w→DV P ρ ops NS Q D' pend' a w)→DV P ρ ops NS Q D pend a w) (h2:∀ a w,J a w→DV P ρ ops NS Q D' pend' a w):DV P ρ ops NS Q D pend a w:=h1 h2
theorem dv_join {D':List Nat} (h:DV P ρ ops NS Q D' pend a w) (hD:(D.all D'.contains && D'.all D.contains)=true:=by kernel_rfl):DV P ρ ops NS Q D pend a w:=by
 simp only [Cv,List.all_eq_true,List.contains_eq_mem,Bs] at hD;exact h.same fun x=>⟨hD.1 x,hD.2 x⟩
theorem L9 (ok:OkV ops NS) (h:Q .normal a w) (hk:okAll ops D=true:=by kernel_rfl):DV P ρ ops NS Q D pend a w:=DV.fin ok hk h
end Go.Dc
