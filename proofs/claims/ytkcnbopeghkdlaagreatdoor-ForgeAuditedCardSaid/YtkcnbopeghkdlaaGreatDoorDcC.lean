import Derived.Test.YtkcnbopeghkdlaaGreatDoorDcB
namespace Go.Dc
open Go
variable {P : Program} {ρ : Option Nat} {n : Fw} {e : List (Nat × Value)} {C : World → Prop}
theorem O9 (b o k:Nat):(⟨b,o,Option.none⟩:Addr).add k=⟨b,o+k,Option.none⟩:=by
 unfold Addr.add;split
 ·rename_i h;subst h;rfl
 ·rfl
theorem Gr {T m:Nat} (h:(P.info? T).map (·.size)=some m) (w:World):(sizeOf T).run P w=.ok m w:=by
 cases hi:P.info? T with
 | none=>rw [hi] at h;cases h
 | some i=>rw [hi] at h;simp at h;simp [sizeOf,typeInfo,hi,h]
theorem run_zero' {T:Nat} {z:Value} (h:(P.info? T).bind (·.zero)=some z) (w:World):(zeroValue T).run P w=.ok z w:=by
 cases hi:P.info? T with
 | none=>rw [hi] at h;cases h
 | some i=>rw [hi] at h;simp at h;simp [zeroValue,typeInfo,hi,h]
def aggD:TypeDesc→Bool
 | .struct _ | .array _ _=>true
 | _=>false
theorem Oz {T:Nat} {d:TypeDesc} (h:P.underlying T=some d) (w:World):(isAgg T).run P w=.ok (aggD d) w:=by
 cases d <;> simp [isAgg,run_underlying h,aggD]
theorem cell_at {w:World} {b off:Nat} {c:Array Value} {t:TypeId} {fz:Nat×Nat} (h:w.heap[b]? = some (.cells c t fz)):w.cell? ⟨b,off,Option.none⟩=c[off]?:=by
 simp [World.cell?,h]
theorem Wp {w:World} {p:Value} {cs:List Value} (h:PtrW w p cs):∃ b off,p=.pointer (some ⟨b,off,Option.none⟩)∧∀ i v,cs[i]? = some v→w.cell? ⟨b,off+i,Option.none⟩=some v:=by
 obtain ⟨b,off,c,t,fz,h1,h2,h3,h4⟩:=h;refine ⟨b,off,h1,fun i v hi=>?_⟩;rw [cell_at h2]
 have hl:i < cs.length:=by
  rcases Es i cs.length with h' | h'
  ·exact h'
  ·simp [List.getElem?_eq_none h'] at hi
 have:((c.toList.drop off).take cs.length)[i]? = some v:=by rw [h4];exact hi
 rw [List.getElem?_take,Af hl,List.getElem?_drop] at this;simpa using this
theorem run_load' {w:World} {a:Addr} {v:Value} (h:w.cell? a=some v):(load a).run P w=.ok v w:=by
 simp [load,Sem.run,h]
theorem Uo {w:World} {b off:Nat} {cs:List Value} (h:∀ i v,cs[i]? = some v→w.cell? ⟨b,off+i,Option.none⟩=some v) :
  (loadCells ⟨b,off,Option.none⟩ cs.length).run P w=.ok cs.toArray w:=by
 have key:∀ (m i:Nat) (acc:Array Value),i+m=cs.length→acc=(cs.take i).toArray→(loadCellsFrom ⟨b,off,Option.none⟩ i m acc).run P w=.ok cs.toArray w:=by
  intro m
  induction m with
  | zero =>
   intro i acc hi ha;have:i=cs.length:=by omega
   subst this;simp [loadCellsFrom,ha]
  | succ m ih =>
   intro i acc hi ha;have hl:i < cs.length:=by omega
   have hv:cs[i]? = some cs[i]:=Bb hl;simp only [loadCellsFrom,O9,Sem.run_bind,run_load' (h i _ hv),Result.andThen_ok];refine ih (i+1) _ (by omega) ?_
   rw [ha,Bi hl];simp
 exact key cs.length 0 #[] (by omega) (by simp)
theorem Ce {T:TypeId} {d:TypeDesc} {x:Operand} {p v:Value} (hT:P.underlying T=some d) (hd:aggD d=false) (hx:Cn e x=some p) (hp:∀ w,C w→PtrW w p [v]):Ev P n e C (.load T x) v:=by
 intro o a w ho F hC;obtain ⟨b,off,rfl,hc⟩:=Wp (hp w hC);have:=hc 0 v rfl;simp only [E8] at this;have hl:=run_load' (P:=P) this;simp only [execOp,ho,F.eval hx,Instr.loadAt,Instr.sureAddr,loadVar,Sem.run_bind,Sem.run_pure,Result.andThen_ok,Oz hT,hd,Bc,Cg,hl]
theorem C0 {T:TypeId} {d:TypeDesc} {x:Operand} {p:Value} {cs:List Value} (hT:P.underlying T=some d) (hd:aggD d=true) (hs:(P.info? T).map (·.size)=some cs.length) (hx:Cn e x=some p) (hp:∀ w,C w→PtrW w p cs) :
  Ev P n e C (.load T x) (.agg cs.toArray):=by
 intro o a w ho F hC;obtain ⟨b,off,rfl,hc⟩:=Wp (hp w hC);simp [execOp,ho,F.eval hx,Instr.loadAt,Instr.sureAddr,loadVar,Oz hT,hd,Gr hs,Uo hc]
def Qn:Value→Nat→Value
 | .pointer (some a),k=>.pointer (some (a.add k))
 | v,_=>v
theorem take_drop_take {l cs:List Value} {k m:Nat} (h:(l.take cs.length)=cs) (hk:k+m≤cs.length):(l.drop k).take ((cs.drop k).take m).length=(cs.drop k).take m:=by
 have:((cs.drop k).take m).length=m:=by simp;omega
 rw [this]
 conv=>rhs;rw [← h]
 rw [List.drop_take,List.take_take];congr 1;omega
theorem PtrW.field {w:World} {p:Value} {cs:List Value} (h:PtrW w p cs) (k m:Nat) (hk:k+m≤cs.length):PtrW w (Qn p k) ((cs.drop k).take m):=by
 obtain ⟨b,off,c,t,fz,rfl,h2,h3,h4⟩:=h;refine ⟨b,off+k,c,t,fz,by simp [Qn,O9],h2,by simp;omega,?_⟩
 rw [← H8];exact take_drop_take h4 hk
theorem PtrC.field {g:Gh} {p:Value} {cs:List Value} (h:PtrC g p cs) (k m:Nat) (hk:k+m≤cs.length):PtrC g (Qn p k) ((cs.drop k).take m):=by
 obtain ⟨b,off,c,t,fz,rfl,h2,h3,h4⟩:=h;refine ⟨b,off+k,c,t,fz,by simp [Qn,O9],h2,by simp;omega,?_⟩
 rw [← H8];exact take_drop_take h4 hk
theorem St.box {g:Gh} {cs:List Hl} {fr:Hl} {b:Nat} {l:List Value} {t:TypeId} {fz:Nat×Nat} (k:Nat) (hk:cs[k]? = some [(b,.cells l.toArray t fz)]) (off m:Nat) (hm:off+m≤l.length) :
  ∀ w,St g cs fr w→PtrW w (.pointer (some ⟨b,off,Option.none⟩)) ((l.drop off).take m):=by
 intro w h;refine ⟨b,off,l.toArray,t,fz,rfl,h.heap k hk,by simp;omega,?_⟩
 have:((l.drop off).take m).length=m:=by simp;omega
 rw [this]
theorem ev_fieldAddr {T:TypeId} {fs:Array Field} {x:Operand} {p:Value} {i k z:Nat} {ft:TypeId} (hT:P.underlying T=some (.struct fs)) (hf:(fs[i]?).map (fun f=>(f.offset,f.type))=some (k,ft))
  (hz:(P.info? ft).map (·.size)=some (z+1)) (hx:Cn e x=some p) (hp:∃ a,p=.pointer (some a)):Ev P n e C (.fieldAddr T x i) (Qn p k):=by
 intro o a w ho F _;obtain ⟨ad,rfl⟩:=hp;cases hfi:fs[i]? with
 | none=>rw [hfi] at hf;cases hf
 | some f =>
  rw [hfi] at hf;simp at hf;obtain ⟨rfl,rfl⟩:=hf;simp [execOp,ho,F.eval hx,Instr.fieldAt,Instr.sureAddr,run_underlying hT,hfi,fieldPlace,Gr hz,Qn]
theorem PtrC.ptr {g:Gh} {p:Value} {cs:List Value} (h:PtrC g p cs):∃ a,p=.pointer (some a):=by
 obtain ⟨b,off,c,t,fz,h1,_⟩:=h;exact ⟨_,h1⟩
theorem ev_field1 {T:TypeId} {fs:Array Field} {x:Operand} {cs:List Value} {i k:Nat} {ft:TypeId} {d:TypeDesc} {v:Value} (hT:P.underlying T=some (.struct fs)) (hf:(fs[i]?).map (fun f=>(f.offset,f.type))=some (k,ft))
  (hft:P.underlying ft=some d) (hd:aggD d=false) (hx:Cn e x=some (.agg cs.toArray)) (hv:cs[k]? = some v):Ev P n e C (.field T x i) v:=by
 intro o a w ho F _;cases hfi:fs[i]? with
 | none=>rw [hfi] at hf;cases hf
 | some f =>
  rw [hfi] at hf;simp at hf;obtain ⟨rfl,rfl⟩:=hf;simp [execOp,ho,F.eval hx,Instr.field,run_underlying hT,hfi,asAgg,part,Oz hft,hd,hv]
def at? {α:Type} (l:List α) (i:Int):Option α:=if 0≤i then l[i.toNat]? else Option.none
theorem Mc {α:Type} {l:List α} {i:Int} {x:α} (h:at? l i=some x):0≤i∧∃ hi:i.toNat < l.length,l[i.toNat]=x:=by
 unfold at? at h;split at h
 ·rename_i h0
  refine ⟨h0,?_⟩;rcases Es i.toNat l.length with h' | h'
  ·exact ⟨h',by rw [Bb h'] at h;simpa using h⟩
  ·simp [List.getElem?_eq_none h'] at h
 ·cases h
theorem Yc {T E:TypeId} {ad:Addr} {len cap z:Nat} {i:Int} {k:IntKind} (hT:P.underlying T=some (.slice E)) (hz:(P.info? E).map (·.size)=some z) (h0:0≤i) (h1:i < len) (w:World) :
  (Instr.indexAt T (.slice (some ad) len cap) (.int k i)).run P w=.ok (.pointer (some (ad.add (i.toNat * z)))) w:=by
 simp [Instr.indexAt,asIntOf,run_underlying hT,h0,h1,Gr hz]
theorem idx_own {α:Type} [Rep α] {g:Gh} {l:List α} {v:Value} {c:Hl} {i:Int} {x:α} (hr:OwnS g l v c) (hi:at? l i=some x) :
  ∃ b arr t cs,c=[(b,.cells arr t (0,0))]∧Rep.rep g x cs∧cs=(arr.toList.drop (i.toNat * Rep.n α)).take (Rep.n α)∧i.toNat * Rep.n α+Rep.n α≤arr.size ∧
  (∀ w (cks:List Hl) (fr:Hl) (k:Nat),cks[k]? = some c→St g cks fr w→PtrW w (.pointer (some ⟨b,i.toNat * Rep.n α,Option.none⟩)) cs) ∧
  (∀ (P:Program) (n:Fw) (e:List (Nat×Value)) (C:World→Prop) (T E:TypeId) (xo io:Operand) (k:IntKind),P.underlying T=some (.slice E)→(P.info? E).map (·.size)=some (Rep.n α) →
   Cn e xo=some v→Cn e io=some (.int k i)→Ev P n e C (.indexAddr T xo io) (.pointer (some ⟨b,i.toNat * Rep.n α,Option.none⟩))) ∧
  ∀ (y:α) (cs':List Value),Rep.rep g y cs'→∀ arr':Array Value,arr'.size=arr.size→arr'.toList=arr.toList.take (i.toNat * Rep.n α)++cs'++arr.toList.drop (i.toNat * Rep.n α+Rep.n α) →
   OwnS g (l.set i.toNat y) v [(b,.cells arr' t (0,0))]:=by
 obtain ⟨h0,hlt,hx⟩:=Mc hi;rcases hr with ⟨rfl,rfl,_⟩ | ⟨b,cap,arr,t,rfl,hc,h2,h3,h5⟩
 ·simp at hlt
 ·have hrep:=h5 i.toNat hlt;rw [hx] at hrep
  have hle:i.toNat * Rep.n α+Rep.n α≤arr.size:=by
   have:(i.toNat+1) * Rep.n α≤cap * Rep.n α:=A3 _ (by omega)
   rw [B4,Nat.one_mul] at this;omega
  have hlen:=Rep.len hrep;refine ⟨b,arr,t,_,hc,hrep,rfl,hle,?_,?_,?_⟩
  ·intro w cks fr k hk s;subst hc;exact ⟨b,_,arr,t,(0,0),rfl,s.heap k hk,by rw [hlen];exact hle,by rw [hlen]⟩
  ·intro P n e C T E xo io k hT hz hxo hio o a w ho F _;have h1:i < (l.length:Int):=by omega
   simp [execOp,ho,F.eval hxo,F.eval hio,Yc hT hz h0 h1,O9]
  ·intro y cs' hy arr' hs' ha';refine .inr ⟨b,cap,arr',t,by simp,rfl,by simpa using h2,by rw [hs',h3],?_⟩
   intro j hj;have hj':j < l.length:=by simpa using hj
   have hcl:=Rep.len hy;rw [ha'];by_cases hji:j=i.toNat
   ·subst hji;simp only [List.getElem_set_self];rw [A6,List.drop_append_of_le_length (by simp;omega),D4 (by simp;omega),Cw,Cy (by omega),C5 (by omega)]
    exact hy
   ·rw [List.getElem_set_ne (Ne.symm hji)];have hold:=h5 j hj';have hol:=Rep.len hold;rcases Nat.lt_or_gt_of_ne hji with hlt' | hgt
    ·
     have hle2:j * Rep.n α+Rep.n α≤i.toNat * Rep.n α:=by
      have:(j+1) * Rep.n α≤i.toNat * Rep.n α:=A3 _ hlt';rw [B4,Nat.one_mul] at this;exact this
     have:(List.take (i.toNat * Rep.n α) arr.toList++cs'++List.drop (i.toNat * Rep.n α+Rep.n α) arr.toList).drop (j * Rep.n α) =
       ((arr.toList.take (i.toNat * Rep.n α)).drop (j * Rep.n α))++(cs'++List.drop (i.toNat * Rep.n α+Rep.n α) arr.toList):=by
      rw [A6,List.drop_append_of_le_length (by simp;omega)]
     rw [this,Cy (by simp;omega),List.drop_take,List.take_take,Nat.min_eq_left (by omega)]
     exact hold
    ·
     have hge2:i.toNat * Rep.n α+Rep.n α≤j * Rep.n α:=by
      have:(i.toNat+1) * Rep.n α≤j * Rep.n α:=A3 _ hgt;rw [B4,Nat.one_mul] at this;exact this
     have hl1:(List.take (i.toNat * Rep.n α) arr.toList++cs').length=i.toNat * Rep.n α+Rep.n α:=by simp;omega
     have:(List.take (i.toNat * Rep.n α) arr.toList++cs'++List.drop (i.toNat * Rep.n α+Rep.n α) arr.toList).drop (j * Rep.n α)=arr.toList.drop (j * Rep.n α):=by
      rw [List.drop_append,D4 (by omega),Cw,hl1,H8]
      congr 1;omega
     rw [this];exact hold
def spl (c:Array Value) (off:Nat) (vs:List Value):Array Value:=(c.toList.take off++vs++c.toList.drop (off+vs.length)).toArray
theorem Ve {c:Array Value} {off:Nat} {vs:List Value} (h:off+vs.length≤c.size):(spl c off vs).size=c.size:=by
 simp [spl];omega
theorem Ql {w:World} {b:Nat} {c:Array Value} {t:TypeId} {vs:List Value} (off i:Nat) (hb:w.heap[b]? = some (.cells c t (0,0))) (hl:off+i+vs.length≤c.size) (h1:∀ v∈vs,U6 v=true) :
  ∃ w',(storeCells ⟨b,off,Option.none⟩ vs i).run P w=.ok () w'∧w'.heap[b]? = some (.cells (spl c (off+i) vs) t (0,0))∧(∀ d,d≠b→w'.heap[d]? = w.heap[d]?)∧w'.heap.size=w.heap.size∧w'.os=w.os∧w'.output=w.output∧w'.tape=w.tape∧w'.drawn=w.drawn:=by
 induction vs generalizing w c i with
 | nil=>exact ⟨w,by simp [storeCells],by rw [hb];simp [spl],fun _ _=>rfl,rfl,rfl,rfl,rfl,rfl⟩
 | cons v r ih =>
  simp only [Dl] at hl;have hcell:w.cell? ⟨b,off+i,Option.none⟩=some (c[off+i]'(by omega)):=by rw [cell_at hb,Array.getElem?_eq_getElem (by omega)]
  have hfz:w.frozen? ⟨b,off+i,Option.none⟩=false:=by simp [World.frozen?,hb]
  have hone:=h1 v (by simp)
  have hst:(store ⟨b,off+i,Option.none⟩ v).run P w=.ok () (w.setCell ⟨b,off+i,Option.none⟩ v):=by
   cases v <;> simp [U6] at hone <;> simp [store,Sem.run,hcell,hfz]
  have hb2:(w.setCell ⟨b,off+i,Option.none⟩ v).heap[b]? = some (.cells (c.setIfInBounds (off+i) v) t (0,0)):=by
   simp [World.setCell,Array.getElem?_modify,hb]
  obtain ⟨w',e1,e2,e3,e4,e5,e6,e7,e8⟩:=ih (w:=w.setCell ⟨b,off+i,Option.none⟩ v) (c:=c.setIfInBounds (off+i) v) (i+1) hb2 (by simp;omega) (fun u hu=>h1 u (by simp [hu]))
  refine ⟨w',?_,?_,?_,?_,?_,?_,?_,?_⟩
  ·simp only [storeCells,O9,Sem.run_bind,hst,Result.andThen_ok];exact e1
  ·rw [e2];congr 2;simp only [spl];congr 1;rw [Array.toList_setIfInBounds];have hlt:off+i < c.toList.length:=by simp;omega
   rw [show off+(i+1)=off+i+1 from by omega,List.take_set,Bi hlt,List.set_append_right _ _ (by rw [Bg];omega),List.drop_set_of_lt (by omega)]
   have hs:off+i - (List.take (off+i) c.toList).length=0:=by rw [Bg];omega
   rw [hs];simp only [List.set_cons_zero,Dl,A6,List.cons_append,Cw];rw [show off+i+1+r.length=off+i+(r.length+1) from by omega]
  ·intro d hd;rw [e3 d hd];simp [World.setCell,Array.getElem?_modify,Ne.symm hd]
  ·rw [e4];simp [World.setCell]
  ·rw [e5];rfl
  ·rw [e6];rfl
  ·rw [e7];rfl
  ·rw [e8];rfl
theorem wl_store {ops:Array Oper} {rest:List Oper} {o:Oper} {Q:Exit→Act→World→Prop} {a:Act} {w:World} {g:Gh} {cks:List Hl} {fr:Hl} {T t:TypeId} {x y:Operand} {b off k:Nat} {v:Value} {c c':Array Value}
  (hg:Region.wanted o (yielded ops a.tmps)=true) (ho:o.op=.store T x y) (F:Fr n a e) (S:St g cks fr w)
  (hx:Cn e x=some (.pointer (some ⟨b,off,Option.none⟩))) (hy:Cn e y=some v) (hz:(P.info? T).map (·.size)=some v.cells.size) (h1:∀ u∈v.cells.toList,U6 u=true)
  (hk:cks[k]? = some [(b,.cells c t (0,0))]) (hl:off+v.cells.size≤c.size) (hc':spl c off v.cells.toList=c') (hd:o.dst=Option.none)
  (K:∀ w',St g (cks.set k [(b,.cells c' t (0,0))]) fr w'→wpListIn (RW ρ) 0 P ops Q rest a w'):wpListIn (RW ρ) 0 P ops Q (o::rest) a w:=by
 have hb:=S.heap k hk;obtain ⟨w',e1,e2,e3,e4,e5,e6,e7,e8⟩:=Ql (P:=P) (w:=w) (b:=b) (c:=c) (t:=t) (vs:=v.cells.toList) off 0 hb (by simpa using hl) h1
 have hrun:(execOp a.eval o).run P w=.ok .skip w':=by
  simp [execOp,ho,F.eval hx,F.eval hy,Instr.storeAt,Instr.sureAddr,storeVar,Gr hz,e1]
 refine Tv hg hrun (by intro d;simp) ?_
 simp only [Oper.uponIn,hd];refine K w' ?_
 have hlt:k < cks.length:=by
  rcases Es k cks.length with h' | h'
  ·exact h'
  ·simp [List.getElem?_eq_none h'] at hk
 refine St.back k hlt ?_;have:=(S.front k hk).write (w':=w') (y:=.cells c' t (0,0)) (by rw [e2,← hc'];rfl) e3 e5 e6 e7 (Nat.le_of_eq e8.symm)
 exact this
theorem wl_new {ops:Array Oper} {rest:List Oper} {o:Oper} {Q:Exit→Act→World→Prop} {a:Act} {w:World} {g:Gh} {cks:List Hl} {fr:Hl} {T:TypeId} {cs:List Value} {d:Nat}
  (hg:Region.wanted o (yielded ops a.tmps)=true) (hrun:(execOp a.eval o).run P w=.ok (.value (.pointer (some ⟨w.heap.size,0,Option.none⟩))) { w with heap:=w.heap.push (.cells cs.toArray T) }) (F:Fr n a e) (S:St g cks fr w)
  (hd:o.dst=some d) (hn:Nat.blt d n.sz=true)
  (K:∀ b a' w',Fr n a' ((d,.pointer (some ⟨b,0,Option.none⟩))::e)→St g ([(b,.cells cs.toArray T (0,0))]::cks) fr w'→wpListIn (RW ρ) 0 P ops Q rest a' w'):wpListIn (RW ρ) 0 P ops Q (o::rest) a w:=by
 refine Tv hg hrun (by intro d;simp) ?_
 simp only [Oper.uponIn,hd];exact K w.heap.size _ _ (F.put hn) (S.push rfl rfl rfl rfl)
theorem Wl {ops:Array Oper} {rest:List Oper} {o:Oper} {Q:Exit→Act→World→Prop} {a:Act} {w:World} {g:Gh} {cks:List Hl} {fr:Hl} {T:TypeId} {z:Value} {cs:List Value} {d:Nat}
  (hg:Region.wanted o (yielded ops a.tmps)=true) (ho:o.op=.alloc T) (hz:(P.info? T).bind (·.zero)=some z) (hcs:z.cells=cs.toArray) (F:Fr n a e) (S:St g cks fr w)
  (hd:o.dst=some d) (hn:Nat.blt d n.sz=true)
  (K:∀ b a' w',Fr n a' ((d,.pointer (some ⟨b,0,Option.none⟩))::e)→St g ([(b,.cells cs.toArray T (0,0))]::cks) fr w'→wpListIn (RW ρ) 0 P ops Q rest a' w'):wpListIn (RW ρ) 0 P ops Q (o::rest) a w :=
 wl_new hg (by simp [execOp,ho,Instr.alloc,run_zero' hz,newVar,newRow,newObj,Sem.run,hcs]) F S hd hn K
theorem wl_box {ops:Array Oper} {rest:List Oper} {o:Oper} {Q:Exit→Act→World→Prop} {a:Act} {w:World} {g:Gh} {cks:List Hl} {fr:Hl} {T:TypeId} {x:Operand} {v:Value} {cs:List Value} {d:Nat}
  (hg:Region.wanted o (yielded ops a.tmps)=true) (ho:o.op=.box T x) (hx:Cn e x=some v) (hcs:v.cells=cs.toArray) (F:Fr n a e) (S:St g cks fr w)
  (hd:o.dst=some d) (hn:Nat.blt d n.sz=true)
  (K:∀ b a' w',Fr n a' ((d,.pointer (some ⟨b,0,Option.none⟩))::e)→St g ([(b,.cells cs.toArray T (0,0))]::cks) fr w'→wpListIn (RW ρ) 0 P ops Q rest a' w'):wpListIn (RW ρ) 0 P ops Q (o::rest) a w :=
 wl_new hg (by simp [execOp,ho,F.eval hx,Instr.box,newVar,newRow,newObj,Sem.run,hcs]) F S hd hn K
theorem Xx {k:Nat} {f:FuncId} {args:Array Value} {w:World} {R:Ending→World→Prop}:CallsIn (RW ρ) k P f args w R↔Calls P f args w R:=callsIn_wide (n:=k)
theorem Xi {ops:Array Oper} {rest:List Oper} {o:Oper} {Q:Exit→Act→World→Prop} {a:Act} {w:World} {f:Operand} {fn:FuncId} {cap:List Value} {xs:List Operand} {vs:List Value} {A:Array TypeId} {d:Nat} {R:Value→World→Prop}
  (hg:Region.wanted o (yielded ops a.tmps)=true) (ho:o.op=.call { callee:=.value f,args:=xs.toArray,argTypes:=A }) (F:Fr n a e) (hf:Cn e f=some (.func (.func fn) #[] cap.toArray)) (hxs:xs.map (Cn e)=vs.map some)
  (hent:∀ args w,(callFunc fn args).run P w=.ok (.enter fn args) w) (hc:Calls P fn (vs++cap).toArray w (fun en w'=>∃ v,en=.returned v∧R v w')) (hd:o.dst=some d) (hn:Nat.blt d n.sz=true)
  (K:∀ v a' w',R v w'→Fr n a' ((d,v)::e)→wpListIn (RW ρ) 0 P ops Q rest a' w'):wpListIn (RW ρ) 0 P ops Q (o::rest) a w:=by
 have hm:xs.map a.eval=vs:=by
  clear ho hc
  induction xs generalizing vs with
  | nil=>cases vs with
   | nil=>rfl
   | cons u r=>simp at hxs
  | cons p r ih=>cases vs with
   | nil=>simp at hxs
   | cons u s =>
    simp only [Eb,List.cons.injEq] at hxs ⊢;exact ⟨F.eval hxs.1,ih hxs.2⟩
 have hrun:(execOp a.eval o).run P w=.ok (.enter fn (vs++cap).toArray) w:=by
  simp [execOp,ho,resolve,F.eval hf,Deferred.ofValue,hm,invoke,hent]
 refine Tv hg hrun (by intro d;simp) ?_
 simp only [Oper.uponIn];refine ⟨(fun h=>by cases h),(Xx.2 hc).mono ?_⟩
 rintro en w' ⟨v,rfl,hR⟩;simp only [hd];exact K v _ w' hR (F.put hn)
theorem Av {f:FuncId} {fn:Func} {c:Code} {args:List Value} {w:World} {R:Ending→World→Prop} (hf:P.funcs[f]? = some fn) (hb:fn.body=some c) {m:Nat} (hn:fn.ntmps=m) (hl:args.length≤m)
  (h:∀ a,Fr ⟨m,[]⟩ a (argE 0 args)→c.wpIn (RW Option.none) 0 P (bodyPost P fn R) a w):Calls P f args.toArray w R:=by
 refine Xx.1 (callsIn_of_wp (F:=RW Option.none) (n:=0) hf hb trivial ?_);rw [hn];exact h _ (Fr.enter hl)
def ResV (P:Program) (e:List (Nat×Value)) (w:World):ResultVar→Value→Prop
 | .tmp t,v=>Q3 e t=some v
 | .cell t T,v=>∃ p,Q3 e t=some p∧((∃ d,P.underlying T=some d∧aggD d=false∧PtrW w p [v])∨(∃ d cs,P.underlying T=some d∧aggD d=true∧(P.info? T).map (·.size)=some cs.length∧PtrW w p cs∧v=.agg cs.toArray))
def resM (a:Act) (r:ResultVar):Sem Value :=
 match r with
 | .tmp t=>pure (a.tmps.getD t undef)
 | .cell x t=>do loadVar t (← asAddr (a.tmps.getD x undef))
theorem run_res {a:Act} {w:World} {r:ResultVar} {v:Value} (F:Fr n a e) (h:ResV P e w r v):(resM a r).run P w=.ok v w:=by
 cases r with
 | tmp t=>simp only [ResV] at h;simp only [resM,F.get t v h,Sem.run_pure]
 | cell t T =>
  simp only [ResV] at h;obtain ⟨p,hp,h⟩:=h;have hp':=F.get t p hp;rcases h with ⟨d,h1,h2,h3⟩ | ⟨d,cs,h1,h2,h3,h4,rfl⟩
  ·obtain ⟨b,off,rfl,hc⟩:=Wp h3;have:=hc 0 v rfl;simp only [E8] at this;simp only [resM,hp',asAddr,Sem.run_bind,Sem.run_pure,Result.andThen_ok,loadVar,Oz h1,h2,Bc,Cg,run_load' this]
  ·obtain ⟨b,off,rfl,hc⟩:=Wp h4;simp only [resM,hp',asAddr,Sem.run_bind,Sem.run_pure,Result.andThen_ok,loadVar,Oz h1,h2,G0,Gr h3,Uo hc]
def Ue (P:Program) (e:List (Nat×Value)) (w:World):List ResultVar→List Value→Prop
 | [],vs=>vs=[]
 | r::rs,vs=>∃ v us,vs=v::us∧ResV P e w r v∧Ue P e w rs us
theorem run_mapM_res {a:Act} {w:World} (F:Fr n a e):∀ {rs:List ResultVar} {vs:List Value},Ue P e w rs vs→(rs.mapM (resM a)).run P w=.ok vs w
 | [],vs,h=>by simp only [Ue] at h;subst h;simp
 | r::rs,vs,h=>by
  simp only [Ue] at h;obtain ⟨v,us,rfl,h1,h2⟩:=h;rw [List.mapM_cons];simp only [Sem.run_bind,run_res F h1,Result.andThen_ok,run_mapM_res F h2,Sem.run_pure]
def pack:List Value→Value
 | [v]=>v
 | vs=>.tuple vs.toArray
theorem post_ret {fn:Func} {R:Ending→World→Prop} {a:Act} {w:World} {rs:List ResultVar} (vs:List Value) (F:Fr n a e) (hr:fn.results=rs.toArray) (h:Ue P e w rs vs) (hR:R (.returned (pack vs)) w) :
  a.defers=n.df∧∃ v,(results fn a.tmps).run P w=.ok v w∧R (.returned v) w:=by
 refine ⟨F.df,pack vs,?_,hR⟩;have h1:=run_mapM_res F h
 have h2:(fn.results.mapM (resM a)).run P w=.ok vs.toArray w:=by
  rw [hr,List.mapM_toArray];simp only [Sem.run_map,h1,Result.andThen_ok]
 unfold results;show (do let vs ← fn.results.mapM (resM a);pure (if h:vs.size=1 then vs[0] else .tuple vs):Sem Value).run P w=_
 simp only [Sem.run_bind,h2,Result.andThen_ok]
 match vs with
 | []=>simp [pack]
 | [v]=>simp [pack]
 | v::u::r=>simp [pack]
inductive Step (σ ρ:Type) where
 | next (s:σ)
 | done (r:ρ)
def Vt {σ ρ:Type} (m:σ→Option (Step σ ρ)):Nat→σ→Option ρ
 | 0,_=>Option.none
 | k+1,s=>match m s with
  | Option.none=>Option.none
  | some (.next s')=>Vt m k s'
  | some (.done r)=>some r
noncomputable def Gk {σ ρ:Type} (m:σ→Option (Step σ ρ)) (s:σ):Option ρ :=
 open Classical in if h:∃ k r,Vt m k s=some r then some (Classical.choose (Classical.choose_spec h)) else Option.none
theorem iterN_mono {σ ρ:Type} {m:σ→Option (Step σ ρ)} {k:Nat}:∀ {s:σ} {r:ρ},Vt m k s=some r→∀ j,Vt m (k+j) s=some r:=by
 induction k with
 | zero=>intro s r h;cases h
 | succ k ih =>
  intro s r h j;rw [show k+1+j=(k+j)+1 from by omega]
  simp only [Vt] at h ⊢;cases hm:m s with
  | none=>rw [hm] at h;cases h
  | some x =>
   rw [hm] at h;cases x with
   | next s'=>exact ih h j
   | done r'=>exact h
theorem iter_of {σ ρ:Type} {m:σ→Option (Step σ ρ)} {k:Nat} {s:σ} {r:ρ} (h:Vt m k s=some r):Gk m s=some r:=by
 have hx:∃ k r,Vt m k s=some r:=⟨k,r,h⟩;unfold Gk;rw [dif_pos hx];have h2:=Classical.choose_spec (Classical.choose_spec hx);have a1:=iterN_mono h (Classical.choose hx);have a2:=iterN_mono h2 k;rw [Nat.add_comm] at a2;rw [a2] at a1;exact a1
theorem iter_some {σ ρ:Type} {m:σ→Option (Step σ ρ)} {s:σ} {r:ρ} (h:Gk m s=some r):∃ k,Vt m k s=some r:=by
 unfold Gk at h;split at h
 ·rename_i hx
  have h2:=Classical.choose_spec (Classical.choose_spec hx);refine ⟨Classical.choose hx,?_⟩;rw [h2];exact h
 ·cases h
theorem iter_eq {σ ρ:Type} (m:σ→Option (Step σ ρ)) (s:σ):Gk m s=match m s with
  | Option.none=>Option.none
  | some (.next s')=>Gk m s'
  | some (.done r)=>some r:=by
 cases hm:m s with
 | none =>
  cases hi:Gk m s with
  | none=>rfl
  | some r =>
   obtain ⟨k,hk⟩:=iter_some hi;cases k with
   | zero=>cases hk
   | succ k=>simp only [Vt,hm] at hk;cases hk
 | some x =>
  cases x with
  | done r=>exact iter_of (k:=1) (by simp [Vt,hm])
  | next s' =>
   show Gk m s=Gk m s';cases hi:Gk m s' with
   | some r =>
    obtain ⟨k,hk⟩:=iter_some hi;exact iter_of (k:=k+1) (by simp [Vt,hm,hk])
   | none =>
    cases hj:Gk m s with
    | none=>rfl
    | some r =>
     obtain ⟨k,hk⟩:=iter_some hj;cases k with
     | zero=>cases hk
     | succ k =>
      simp only [Vt,hm] at hk;rw [iter_of hk] at hi;cases hi
theorem C7 {σ ρ:Type} {m:σ→Option (Step σ ρ)} {s s':σ} (h:m s=some (.next s')):Gk m s=Gk m s':=by rw [iter_eq,h]
theorem C4 {σ ρ:Type} {m:σ→Option (Step σ ρ)} {s:σ} {r:ρ} (h:m s=some (.done r)):Gk m s=some r:=by rw [iter_eq,h]
theorem least_ex {p:Nat→Prop} (h:∃ j,p j):∃ j,p j∧∀ i,p i→j≤i:=by
 obtain ⟨j,hj⟩:=h
 induction j using Nat.strongRecOn with
 | _ j ih =>
  by_cases hx:∃ i,i < j∧p i
  ·obtain ⟨i,hi,hp⟩:=hx;exact ih i hi hp
  ·refine ⟨j,hj,fun i hi=>?_⟩;rcases Es i j with h | h
   ·exact absurd ⟨i,h,hi⟩ hx
   ·exact h
noncomputable def least (p:Nat→Prop):Nat:=open Classical in if h:∃ j,p j then Classical.choose (least_ex h) else 0
theorem least_spec {p:Nat→Prop} (h:∃ j,p j):p (least p)∧∀ i,p i→least p≤i:=by
 unfold least;rw [dif_pos h];exact Classical.choose_spec (least_ex h)
theorem wp_iter {τ:Option Nat} {σ ρ:Type} {m:σ→Option (Step σ ρ)} {s:σ} {r:ρ} {c:Code} {Q:Exit→Act→World→Prop} {a:Act} {w:World} (I:σ→Act→World→Prop) (hr:Gk m s=some r) (h0:I s a w)
  (hround:∀ s a w x,I s a w→m s=some x→(∀ r',x=.done r'→r'=r)→c.wpIn (RW τ) 0 P (Exit.then (fun a' w'=>∃ s',x=.next s'∧I s' a' w') Q) a w):(Code.loop c).wpIn (RW τ) 0 P Q a w:=by
 obtain ⟨k,hk⟩:=iter_some hr;refine wpIn_loop (fun a w=>∃ j s,I s a w∧Vt m j s=some r) (fun a w=>least fun j=>∃ s,I s a w∧Vt m j s=some r) ⟨k,s,h0,hk⟩ ?_;rintro a w ⟨j0,s0,hI0,hj0⟩;obtain ⟨⟨s,hI,hj⟩,hmin⟩:=least_spec (p:=fun j=>∃ s,I s a w∧Vt m j s=some r) ⟨j0,s0,hI0,hj0⟩;generalize least (fun j=>∃ s,I s a w∧Vt m j s=some r)=j at hj hmin ⊢;cases j with
 | zero=>cases hj
 | succ j =>
  simp only [Vt] at hj;cases hm:m s with
  | none=>rw [hm] at hj;cases hj
  | some x =>
   rw [hm] at hj;refine Go.wpIn_mono (hround s a w x hI hm (by rintro r' rfl;simpa using hj)) ?_
   intro en a' w' hq;cases en with
   | normal =>
    obtain ⟨s',rfl,hI'⟩:=hq;have hex:∃ j,∃ s,I s a' w'∧Vt m j s=some r:=⟨j,s',hI',hj⟩;refine ⟨⟨j,s',hI',hj⟩,?_⟩;have:=(least_spec hex).2 j ⟨s',hI',hj⟩;omega
   | exit id=>exact hq
   | goto l=>exact hq
   | ret=>exact hq
   | panic ch=>exact hq
   | outgrown=>exact hq
end Go.Dc
