import Derived.Test.YtfpbdmldeikfbaaGreatDoorDcO
import Derived.Lib.Overlaps
set_option linter.unusedSimpArgs false
set_option linter.unusedVariables false
namespace Go.Dc
open Go
variable {P : Program} {ρ : Option Nat} {n : Fw} {e : List (Nat × Value)} {C : World → Prop}
abbrev rs (b off len cap:Nat):Value:=.slice (some ⟨b,off,Option.none⟩) len cap
theorem ev_capR {T E:TypeId} {x:Operand} {a:Option Addr} {m c:Nat} (hx:Bn e x=some (.slice a m c)) (hT:P.underlying T=some (.slice E)) :
  Ev P n e C (.call { callee:=.builtin .cap,args:=#[x],argTypes:=#[T] }) (.int .i64 c):=by
 intro o ac w ho F _;simp [execOp,ho,F.eval hx,resolve,invoke,builtin,Builtin.cap_,run_underlying hT,goInt]
theorem ev_sliceR {T E:TypeId} {x:Operand} {lo hi:Option Operand} {b off len cap z:Nat} {p q:Int} (hT:P.underlying T=some (.slice E)) (hz:(P.info? E).map (·.size)=some z) (hx:Bn e x=some (rs b off len cap)) (hlo:bnd e lo 0 p) (hhi:bnd e hi len q)
  (h0:0≤p) (h1:p≤q) (h2:q≤cap) (h3:p < cap):Ev P n e C (.slice T x lo hi Option.none) (rs b (off+p.toNat * z) (q.toNat - p.toNat) (cap - p.toNat)):=by
 intro o a w ho F _;have hb:=Mt (P:=P) (isS:=true) (len:=len) (cap:=cap) F hlo hhi h0 h1 h2 w;have hne:¬ cap=p.toNat:=by omega
 simp [execOp,ho,F.eval hx,Instr.sliceAt,Instr.slice,run_underlying hT,hb,E8 hz,Qd,hne]
theorem ev_slice3 {a0:Act} (_F:Fr n a0 e) {T E:TypeId} {x lo hi mx:Operand} {v:Value} {a:Option Addr} {len cap z:Nat} {p q m:Int} {k1 k2 k3:IntKind} (hT:P.underlying T=some (.slice E)) (hz:(P.info? E).map (·.size)=some z) (hx:Bn e x=some v) (hv:v=.slice a len cap)
  (hlo:Bn e lo=some (.int k1 p)) (hhi:Bn e hi=some (.int k2 q)) (hmx:Bn e mx=some (.int k3 m)) (h0:0≤p) (h1:p≤q) (h2:q≤m) (h3:m≤cap):∃ v',Ev P n e C (.slice T x (some lo) (some hi) (some mx)) v':=by
 subst hv;refine ⟨.slice (if m.toNat=p.toNat then a else a.map (·.add (p.toNat * z))) (q.toNat - p.toNat) (m.toNat - p.toNat),?_⟩
 intro o ac w ho F _;have b1:p≤q:=h1;have b2:q≤m:=h2;have b3:0≤q:=by omega
 have b4:0≤m:=by omega
 have c1:q≤max m 0:=by omega
 have c2:p≤max q 0:=by omega
 simp [execOp,ho,F.eval hx,F.eval hlo,F.eval hhi,F.eval hmx,Instr.sliceAt,Instr.slice,Instr.sliceBounds,Instr.sliceBound,asIntOf,run_underlying hT,E8 hz,h0,b3,b4,h3,c1,c2]
section
variable {α : Type} [Rep α]
structure CatA (g:Gh) (l:List α) (arr:Array Value):Prop where
 cat:Cat g l (arr.toList.take (l.length * Rep.n α))
 le:l.length * Rep.n α≤arr.size
theorem CatA.mono {g g':Gh} {l:List α} {arr:Array Value} (hl:Le g g') (h:CatA g l arr):CatA g' l arr:=⟨h.cat.mono hl,h.le⟩
theorem OwnS.open {g:Gh} {l:List α} {v:Value} {c:Hl} (h:OwnS g l v c) (hne:l≠[]):∃ b cap arr t,v=rs b 0 l.length cap∧c=[(b,.cells arr t (0,0))]∧l.length≤cap∧arr.size=cap * Rep.n α∧CatA g l arr:=by
 obtain ⟨cs,hc,h'⟩:=h.cat;rcases h' with ⟨rfl,rfl,rfl⟩ | ⟨b,cap,arr,t,h1,h2,h3,h4,h5⟩
 ·have:=hc.1;rcases h with ⟨_,hl,_⟩ | ⟨_,_,_,_,hh,_⟩
  ·exact absurd hl hne
  ·cases hh
 ·refine ⟨b,cap,arr,t,h1,h2,h3,h4,by rw [h5];exact hc,?_⟩
  rw [h4];exact Aq _ h3
theorem CatA.own {g:Gh} {l:List α} {arr:Array Value} {b cap:Nat} {t:TypeId} (h:CatA g l arr) (hc:l.length≤cap) (hs:arr.size=cap * Rep.n α):OwnS g l (rs b 0 l.length cap) [(b,.cells arr t (0,0))] :=
 OwnS.of_cat h.cat hc hs (by rw [h.cat.1])
theorem CatA.cells {g:Gh} {l:List α} {arr:Array Value} (h:CatA g l arr) (p q:Nat) (hpq:p≤q) (hq:q≤l.length):Cat g ((l.take q).drop p) ((arr.toList.drop (p * Rep.n α)).take ((q - p) * Rep.n α)):=by
 have:=h.cat.cut hpq hq
 have e:(arr.toList.drop (p * Rep.n α)).take ((q - p) * Rep.n α)=((arr.toList.take (l.length * Rep.n α)).drop (p * Rep.n α)).take ((q - p) * Rep.n α):=by
  have h1:q * Rep.n α≤l.length * Rep.n α:=Aq _ hq;have h2:p * Rep.n α≤q * Rep.n α:=Aq _ hpq;rw [List.drop_take,List.take_take,Nat.min_eq_left];rw [Nat.sub_mul];omega
 rw [e];exact this
theorem CatA.splice {g:Gh} {l r:List α} {arr:Array Value} {cs:List Value} {p:Nat} (h:CatA g l arr) (hr:Cat g r cs) (hp:p≤l.length) (hfit:(p+r.length) * Rep.n α≤arr.size) :
  CatA g (l.take p++r++l.drop (p+r.length)) (spl arr (p * Rep.n α) cs):=by
 have hcl:=hr.1;have hsz:(spl arr (p * Rep.n α) cs).size=arr.size:=Xa (by rw [hcl,← B8];exact hfit)
 have hA:=h.cells 0 p (Cs _) hp;simp only [Nat.zero_mul,List.drop_zero,Nat.sub_zero] at hA
 have hAl:(arr.toList.take (p * Rep.n α)).length=p * Rep.n α:=by
  have:=h.le;have h2:p * Rep.n α≤l.length * Rep.n α:=Aq _ hp
  simp;omega
 have hoff:p * Rep.n α+cs.length=(p+r.length) * Rep.n α:=by rw [hcl,B8]
 have hlist:(spl arr (p * Rep.n α) cs).toList=arr.toList.take (p * Rep.n α)++cs++arr.toList.drop ((p+r.length) * Rep.n α):=by
  simp [spl,hoff]
 rcases Nat.le_total (p+r.length) l.length with hle | hle
 ·have hD:=h.cells (p+r.length) l.length hle (B7 _);rw [Bw] at hD;have hcat:=(hA.append hr).append hD;have hL:(l.take p++r++l.drop (p+r.length)).length=l.length:=by simp;omega
  refine ⟨?_,by rw [hL,hsz];exact h.le⟩
  rw [hL,hlist];have hAc:(arr.toList.take (p * Rep.n α)++cs).length=(p+r.length) * Rep.n α:=by rw [Aj,hAl,hoff]
  have hkm:=Aq (Rep.n α) hle;generalize arr.toList.take (p * Rep.n α)++cs=X at hAc hcat ⊢
  have e:(X++arr.toList.drop ((p+r.length) * Rep.n α)).take (l.length * Rep.n α)=X++(arr.toList.drop ((p+r.length) * Rep.n α)).take ((l.length - (p+r.length)) * Rep.n α):=by
   rw [List.take_append,Cn (by omega),hAc,← Nat.sub_mul]
  rw [e];exact hcat
 ·have hcat:=hA.append hr;have hd:l.drop (p+r.length)=[]:=D8 hle;rw [hd,Bh];have hL:(l.take p++r).length=p+r.length:=by simp;omega
  refine ⟨?_,by rw [hL,hsz];exact hfit⟩
  have hAc:(arr.toList.take (p * Rep.n α)++cs).length=(p+r.length) * Rep.n α:=by rw [Aj,hAl,hoff]
  rw [hL,hlist];generalize arr.toList.take (p * Rep.n α)++cs=X at hAc hcat ⊢
  have e:(X++arr.toList.drop ((p+r.length) * Rep.n α)).take ((p+r.length) * Rep.n α)=X:=by
   rw [Cm (by omega),Cn (by omega)]
  rw [e];exact hcat
def Src (w:World) (u:Value) (m k:Nat) (cs:List Value):Prop:=(k=0∧∃ a cap,u=.slice a m cap)∨∃ au cap,u=.slice (some au) m cap∧PtrW w (.pointer (some au)) cs
theorem X5 {ops:Array Oper} {rest:List Oper} {o:Oper} {Q:Exit→Act→World→Prop} {a:Act} {w:World} {g:Gh} {cks:List Hl} {fr:Hl} {T T' E:TypeId} {x y:Operand} {k d b p ld cd m:Nat} {u:Value} {l r:List α} {arr:Array Value} {t:TypeId} {cs:List Value}
  (hg:Region.wanted o (yielded ops a.tmps)=true) (ho:o.op=.call { callee:=.builtin .copy,args:=#[x,y],argTypes:=#[T,T'] }) (hT:P.underlying T=some (.slice E)) (hz:(P.info? E).map (·.size)=some (Rep.n α))
  (F:Fr n a e) (S:St g cks fr w) (hx:Bn e x=some (rs b (p * Rep.n α) ld cd)) (hy:Bn e y=some u) (hk:cks[k]? = some [(b,.cells arr t (0,0))]) (ha:CatA g l arr) (hp:p≤l.length) (hr:Cat g r cs) (hsrc:Src w u m r.length cs) (hlen:min m ld=r.length)
  (hfit:(p+r.length) * Rep.n α≤arr.size) (hd:o.dst=some d) (hn:Nat.blt d n.sz=true)
  (K:∀ arr' a' w',arr'.size=arr.size→CatA g (l.take p++r++l.drop (p+r.length)) arr'→St g (cks.set k [(b,.cells arr' t (0,0))]) fr w'→Fr n a' ((d,.int .i64 r.length)::e)→wpListIn (RW ρ) 0 P ops Q rest a' w'):wpListIn (RW ρ) 0 P ops Q (o::rest) a w:=by
 have hklt:k < cks.length:=by
  rcases Ec k cks.length with h' | h'
  ·exact h'
  ·simp [List.getElem?_eq_none h'] at hk
 have hb:=S.heap k hk;obtain ⟨w',e1,e2,e3,e4,e5,e6,e7,e8⟩:=Qi (P:=P) (w:=w) (b:=b) (c:=arr) (t:=t) (vs:=cs) (p * Rep.n α) 0 hb (by rw [Eg,hr.1,← B8];exact hfit) hr.one
 have hfc:∀ i:TypeInfo,(Builtin.firstCells (Rep.n α) r.length u).run P w=.ok cs.toArray w:=by
  intro i;rcases hsrc with ⟨h0,au,cap,rfl⟩ | ⟨au,cap,rfl,hp'⟩
  ·have hcs:cs=[]:=by have:=hr.1;rw [h0,Nat.zero_mul] at this;exact Db this
   subst hcs;rw [h0];cases au with
   | none=>simp [Builtin.firstCells]
   | some au=>simp [Builtin.firstCells,loadCells,loadCellsFrom]
  ·obtain ⟨b2,off2,he,hc⟩:=X7 hp';cases he;have:=V3 (P:=P) hc;rw [hr.1] at this;simpa [Builtin.firstCells] using this
 have hu:∃ au cap,u=.slice au m cap:=by
  rcases hsrc with ⟨_,au,cap,rfl⟩ | ⟨au,cap,rfl,_⟩ <;> exact ⟨_,_,rfl⟩
 have hrun:(execOp a.eval o).run P w=.ok (.value (.int .i64 r.length)) w':=by
  obtain ⟨au,cap,rfl⟩:=hu;have h1:=hfc default;have h2:Nat.min m ld=r.length:=hlen;simp [execOp,ho,F.eval hx,F.eval hy,resolve,invoke,builtin,Builtin.copy_,run_underlying hT,Builtin.lenOf,E8 hz,h2,h1,e1,goInt]
 refine Ue hg hrun (by intro d;simp) ?_
 simp only [Oper.uponIn,hd];refine K (spl arr (p * Rep.n α) cs) _ w' (Xa (by rw [hr.1,← B8];exact hfit)) (ha.splice hr hp hfit) ?_ (F.put hn)
 refine St.back k hklt ?_;exact (S.front k hk).write (w':=w') (by rw [e2,Eg]) e3 e5 e6 e7 (Nat.le_of_eq e8.symm)
theorem CatA.src {g:Gh} {l:List α} {arr:Array Value} (h:CatA g l arr) {cks:List Hl} {fr:Hl} {w:World} {k b:Nat} {t:TypeId} (S:St g cks fr w) (hk:cks[k]? = some [(b,.cells arr t (0,0))]) (p q m cap:Nat) (hpq:p≤q) (hq:q≤l.length) :
  ∃ cs,Cat g ((l.take q).drop p) cs∧Src w (rs b (p * Rep.n α) m cap) m (q - p) cs:=by
 have hc:=h.cells p q hpq hq;refine ⟨_,hc,.inr ⟨_,_,rfl,b,p * Rep.n α,arr,t,(0,0),rfl,S.heap k hk,?_,?_⟩⟩
 ·rw [hc.1];have h1:=h.le;have h2:q * Rep.n α≤l.length * Rep.n α:=Aq _ hq;have h3:((l.take q).drop p).length=q - p:=by simp;omega
  rw [h3,← B8,show p+(q - p)=q by omega];omega
 ·rw [hc.1,show ((l.take q).drop p).length=q - p by simp;omega]
theorem OwnS.srcOf {g:Gh} {l:List α} {v:Value} {c:Hl} (h:OwnS g l v c) {cks:List Hl} {fr:Hl} {w:World} {k:Nat} (S:St g cks fr w) (hk:cks[k]? = some c):∃ cs,Cat g l cs∧Src w v l.length l.length cs:=by
 obtain ⟨cs,h1,h2⟩:=h.reads;obtain ⟨_,_,h3⟩:=h2 w cks fr k hk S;refine ⟨cs,h1,?_⟩;rcases h3 with ⟨h0,a,cap,rfl⟩ | ⟨a,cap,rfl,hp⟩
 ·exact .inl ⟨h0,_,_,by rw [h0]⟩
 ·exact .inr ⟨_,_,rfl,hp⟩
theorem wl_appendZ {ops:Array Oper} {rest:List Oper} {o:Oper} {Q:Exit→Act→World→Prop} {a:Act} {w:World} {g:Gh} {cks:List Hl} {fr:Hl} {T TI E:TypeId} {ik:IntKind} {x y:Operand} {d bytes cap:Nat} {z v:Value} {base:Option Addr} {l:List α} {cs:List Value} {z0:α} {m:Int} {k:IntKind} {l':List α}
  (hg:Region.wanted o (yielded ops a.tmps)=true) (ho:o.op=.call { callee:=.builtin .append,args:=#[x,y],argTypes:=#[T,TI] }) (hT:P.underlying T=some (.slice E)) (hTI:P.underlying TI=some (.int ik)) (hE:ElemT P E (Rep.n α) bytes z) (hz0:∀ g,Rep.rep g z0 z.cells.toList) (hbz:bytes≤1000000) (hbp:0 < bytes)
  (F:Fr n a e) (S:St g cks fr w) (hx:Bn e x=some v) (hv:v=.slice base l.length cap) (hy:Bn e y=some (.int k m)) (hl:Cat g l cs) (hsrc:Src w v l.length l.length cs) (hm:0≤m) (hgrow:(cap:Int) < l.length+m)
  (hl':app? bytes l (List.replicate m.toNat z0)=some l') (hd:o.dst=some d) (hn:Nat.blt d n.sz=true)
  (K:∀ v' c' a' w',OwnS g l' v' c'→St g (c'::cks) fr w'→Fr n a' ((d,v')::e)→wpListIn (RW ρ) 0 P ops Q rest a' w'):wpListIn (RW ρ) 0 P ops Q (o::rest) a w:=by
 obtain ⟨hroom,rfl⟩:=app?_some hl';rw [Gn] at hroom
 obtain ⟨ii,hi⟩:∃ i,P.info? E=some i:=by
  cases h:P.info? E with
  | none=>have:=hE.size;rw [h] at this;cases this
  | some i=>exact ⟨i,rfl⟩
 have hsz:ii.size=Rep.n α:=by have:=hE.size;rw [hi] at this;simpa using this
 have hby:ii.bytes=bytes:=by have:=hE.bytes;rw [hi] at this;simpa using this
 have hz:ii.zero=some z:=by have:=hE.zero;rw [hi] at this;simpa using this
 obtain ⟨q,rfl⟩:=Int.eq_ofNat_of_zero_le hm;simp only [Ay] at hroom K ⊢;have hlt:cap < l.length+q:=by omega
 have hq1:q≤q * bytes:=Nat.le_mul_of_pos_right _ hbp;have hq2:q * bytes≤(l.length+q) * bytes:=Aq _ (by omega)
 have hwrap:IntKind.i64.wrap (q:Int)=q:=IntWalk.i64_in _ (by omega)
 have hfit:=fits hlt hroom hbz;have h63:l.length+q≤(l.length+q) * bytes:=Nat.le_mul_of_pos_right _ hbp;subst hv
 have hfc:(Builtin.firstCells (Rep.n α) l.length (.slice base l.length cap)).run P w.drew=.ok cs.toArray w.drew:=by
  rcases hsrc with ⟨h0,au,cap',he⟩ | ⟨au,cap',he,hp'⟩
  ·have hcs:cs=[]:=by have:=hl.1;rw [h0,Nat.zero_mul] at this;exact Db this
   subst hcs;rw [h0];cases base with
   | none=>simp [Builtin.firstCells]
   | some au=>simp [Builtin.firstCells,loadCells,loadCellsFrom]
  ·cases he;obtain ⟨b2,off2,he2,hc⟩:=X7 hp';cases he2;have hc':∀ j v,cs[j]? = some v→w.drew.cell? ⟨b2,off2+j,Option.none⟩=some v:=fun j v hj=>hc j v hj;have:=V3 (P:=P) hc';rw [hl.1] at this;simpa [Builtin.firstCells] using this
 have hge:=grownCap_ge w (l.length+q) cap E
 have hrun:(execOp a.eval o).run P w=.ok (.value (.slice (some ⟨w.heap.size,0,Option.none⟩) (l.length+q) (grownCap w (l.length+q) cap E)))
   (w.drew.alloc (.cells (cs.toArray++(if q * Rep.n α=0 then #[] else Builtin.zeroCells z.cells q)++Builtin.zeroCells z.cells (grownCap w (l.length+q) cap E - (l.length+q))) E)):=by
  have a1:¬ ((q:Int) < 0):=by omega
  have a2:¬ (281474976710656 < (q:Int) * (bytes:Int)):=by
   have:(q:Int) * (bytes:Int)=((q * bytes:Nat):Int):=by simp
   omega
  have a3:¬ (l.length+q≤cap):=by omega
  have a4:¬ (9223372036854775807 < ((l.length:Int)+(q:Int))):=by omega
  have a5:¬ (281474976710656 < Builtin.nextslicecap (l.length+q) cap * bytes):=by omega
  by_cases h0:q * Rep.n α=0
  ·simp [execOp,ho,F.eval hx,F.eval hy,resolve,invoke,builtin,Builtin.append_,run_underlying hT,run_underlying hTI,sizeOf,typeInfo,zeroValue,hi,hz,hsz,hby,asInt,asIntOf,hwrap,a1,a2,a3,a4,a5,Question.forced,hfc,newRow,grownCap,h0]
  ·simp [execOp,ho,F.eval hx,F.eval hy,resolve,invoke,builtin,Builtin.append_,run_underlying hT,run_underlying hTI,sizeOf,typeInfo,zeroValue,hi,hz,hsz,hby,asInt,asIntOf,hwrap,a1,a2,a3,a4,a5,Question.forced,hfc,newRow,grownCap,h0]
 refine Ue hg hrun (by intro d;simp) ?_
 simp only [Oper.uponIn,hd]
 have hrz:∀ r:Nat,Cat g (List.replicate r z0) ((Builtin.zeroCells z.cells r).toList):=by
  intro r;have hzl:=Rep.len (hz0 g);have hzs:z.cells.toList.length=Rep.n α:=hzl;refine ⟨by rw [Array.length_toList,Nh,hE.zsize,Gn],fun j hj=>?_⟩
  rw [Gn] at hj;simp only [List.getElem_replicate]
  have hle:j * Rep.n α+Rep.n α≤r * Rep.n α:=by
   have:(j+1) * Rep.n α≤r * Rep.n α:=Aq _ hj
   rwa [B8,Nat.one_mul] at this
  have:((Builtin.zeroCells z.cells r).toList.drop (j * Rep.n α)).take (Rep.n α)=z.cells.toList:=by
   apply List.ext_getElem
   ·simp [Nh,hE.zsize];omega
   ·intro q hq1 hq2;have hq3:q < Rep.n α:=by simp [hE.zsize] at hq2;omega
    simp only [Ew,D3,Builtin.zeroCells,Array.getElem_toList,Array.getElem_map,Array.getElem_range]
    have:(j * Rep.n α+q) % z.cells.size=q:=by
     rw [hE.zsize,Nat.mul_comm,Nat.mul_add_mod];exact Vn hq3
    rw [this,getElem!_pos z.cells q (by rw [hE.zsize];exact hq3)]
  rw [this];exact hz0 g
 have hcat:=hl.append (hrz q)
 have hif:(if q * Rep.n α=0 then (#[]:Array Value) else Builtin.zeroCells z.cells q)=Builtin.zeroCells z.cells q:=by
  split
  ·rename_i h0
   apply Array.eq_empty_of_size_eq_zero ?_ |>.symm;rw [Nh,hE.zsize];exact h0
  ·rfl
 rw [hif];have hlen:(l++List.replicate q z0).length=l.length+q:=by simp
 rw [← hlen];refine K _ [(w.heap.size,.cells (cs.toArray++Builtin.zeroCells z.cells q++Builtin.zeroCells z.cells (grownCap w (l++List.replicate q z0).length cap E - (l++List.replicate q z0).length)) E (0,0))] _ _ (OwnS.of_cat hcat (by rw [hlen];exact hge) ?_ ?_) ?_ (F.put hn)
 ·rw [hlen];simp only [Array.size_append,List.size_toArray,Nh,hE.zsize,hl.1];rw [← B8,← B8];congr 1;omega
 ·rw [Array.toList_append,Array.toList_append,Cm (by simp),Cn (by simp)]
 ·exact S.push rfl rfl rfl rfl
theorem CatA.srcP {g:Gh} {l:List α} {arr:Array Value} (h:CatA g l arr) {cks:List Hl} {fr:Hl} {w:World} {k b:Nat} {t:TypeId} (S:St g cks fr w) (hk:cks[k]? = some [(b,.cells arr t (0,0))]) (q cap:Nat) (hq:q≤l.length) :
  ∃ cs,Cat g (l.take q) cs∧Src w (rs b 0 q cap) (l.take q).length (l.take q).length cs:=by
 obtain ⟨cs,h1,h2⟩:=h.src S hk 0 q q cap (Cs _) hq;have hl:(l.take q).length=q:=by simp;omega
 rw [List.drop_zero] at h1;refine ⟨cs,h1,?_⟩;rw [hl];rw [Nat.zero_mul,Nat.sub_zero] at h2;exact h2
theorem CatA.srcD {g:Gh} {l:List α} {arr:Array Value} (h:CatA g l arr) {cks:List Hl} {fr:Hl} {w:World} {k b:Nat} {t:TypeId} (S:St g cks fr w) (hk:cks[k]? = some [(b,.cells arr t (0,0))]) (p m cap:Nat) (hp:p≤l.length) :
  ∃ cs,Cat g (l.drop p) cs∧Src w (rs b (p * Rep.n α) m cap) m (l.drop p).length cs:=by
 obtain ⟨cs,h1,h2⟩:=h.src S hk p l.length m cap hp (B7 _);rw [Bw] at h1;exact ⟨cs,h1,by rw [Cd];exact h2⟩
theorem CatA.pre {g:Gh} {a b:List α} {arr:Array Value} (h:CatA g (a++b) arr):CatA g a arr:=by
 have h1:=h.cells 0 a.length (Cs _) (by simp)
 simp only [Nat.zero_mul,List.drop_zero,Nat.sub_zero,List.take_left'] at h1;refine ⟨h1,Bx (Aq _ (by simp)) h.le⟩
theorem CatA.shut {g:Gh} {l:List α} {arr:Array Value} {b cap m:Nat} {t:TypeId} (h:CatA g l arr) (hm:m=l.length) (hc:m≤cap) (hs:arr.size=cap * Rep.n α):OwnS g l (rs b 0 m cap) [(b,.cells arr t (0,0))]:=by
 subst hm;exact h.own hc hs
theorem We {T E:TypeId} {x:Operand} {lo hi:Option Operand} {b off len cap z:Nat} {q:Int} (hT:P.underlying T=some (.slice E)) (hz:(P.info? E).map (·.size)=some z) (hx:Bn e x=some (rs b off len cap)) (hlo:bnd e lo 0 0) (hhi:bnd e hi len q)
  (h1:0≤q) (h2:q≤cap):Ev P n e C (.slice T x lo hi Option.none) (rs b off q.toNat cap):=by
 intro o a w ho F _;have hb:=Mt (P:=P) (isS:=true) (len:=len) (cap:=cap) F hlo hhi (Int.le_refl 0) h1 h2 w;simp [execOp,ho,F.eval hx,Instr.sliceAt,Instr.slice,run_underlying hT,hb,E8 hz,Qd]
theorem Ll {T E:TypeId} {x:Operand} {lo hi:Option Operand} {b len cap z:Nat} {p q:Int} (hT:P.underlying T=some (.slice E)) (hz:(P.info? E).map (·.size)=some z) (hx:Bn e x=some (rs b 0 len cap)) (hlo:bnd e lo 0 p) (hhi:bnd e hi len q)
  (h0:0≤p) (h1:p≤q) (h2:q≤cap) (h3:p < cap):Ev P n e C (.slice T x lo hi Option.none) (rs b (p.toNat * z) (q.toNat - p.toNat) (cap - p.toNat)):=by
 have:=ev_sliceR (P:=P) (n:=n) (e:=e) (C:=C) (off:=0) hT hz hx hlo hhi h0 h1 h2 h3
 rwa [Gc] at this
theorem wl_appendR {ops:Array Oper} {rest:List Oper} {o:Oper} {Q:Exit→Act→World→Prop} {a:Act} {w:World} {g:Gh} {cks:List Hl} {fr:Hl} {T T' E E':TypeId} {x y:Operand} {k d b p cap m:Nat} {u:Value} {l r:List α} {arr:Array Value} {t:TypeId} {cs:List Value}
  (hg:Region.wanted o (yielded ops a.tmps)=true) (ho:o.op=.call { callee:=.builtin .append,args:=#[x,y],argTypes:=#[T,T'] }) (hT:P.underlying T=some (.slice E)) (hT':P.underlying T'=some (.slice E')) (hz:(P.info? E).map (·.size)=some (Rep.n α))
  (F:Fr n a e) (S:St g cks fr w) (hx:Bn e x=some (rs b 0 p cap)) (hy:Bn e y=some u) (hk:cks[k]? = some [(b,.cells arr t (0,0))]) (ha:CatA g l arr) (hp:p≤l.length) (hr:Cat g r cs) (hsrc:Src w u m r.length cs) (hlen:m=r.length)
  (hroom:p+r.length≤cap) (hfit:arr.size=cap * Rep.n α) (hd:o.dst=some d) (hn:Nat.blt d n.sz=true)
  (K:∀ arr' a' w',arr'.size=arr.size→CatA g (l.take p++r) arr'→St g (cks.set k [(b,.cells arr' t (0,0))]) fr w'→Fr n a' ((d,rs b 0 (p+r.length) cap)::e)→wpListIn (RW ρ) 0 P ops Q rest a' w'):wpListIn (RW ρ) 0 P ops Q (o::rest) a w:=by
 have hklt:k < cks.length:=by
  rcases Ec k cks.length with h' | h'
  ·exact h'
  ·simp [List.getElem?_eq_none h'] at hk
 have hb:=S.heap k hk;have hfits:(p+r.length) * Rep.n α≤arr.size:=by rw [hfit];exact Aq _ hroom
 obtain ⟨w',e1,e2,e3,e4,e5,e6,e7,e8⟩:=Qi (P:=P) (w:=w) (b:=b) (c:=arr) (t:=t) (vs:=cs) (p * Rep.n α) 0 hb (by rw [Eg,hr.1,← B8];exact hfits) hr.one
 have hfc:(Builtin.firstCells (Rep.n α) r.length u).run P w=.ok cs.toArray w:=by
  rcases hsrc with ⟨h0,au,cap,rfl⟩ | ⟨au,cap,rfl,hp'⟩
  ·have hcs:cs=[]:=by have:=hr.1;rw [h0,Nat.zero_mul] at this;exact Db this
   subst hcs;rw [h0];cases au with
   | none=>simp [Builtin.firstCells]
   | some au=>simp [Builtin.firstCells,loadCells,loadCellsFrom]
  ·obtain ⟨b2,off2,he,hc⟩:=X7 hp';cases he;have:=V3 (P:=P) hc;rw [hr.1] at this;simpa [Builtin.firstCells] using this
 have hu:∃ au cap,u=.slice au m cap:=by
  rcases hsrc with ⟨_,au,cap,rfl⟩ | ⟨au,cap,rfl,_⟩ <;> exact ⟨_,_,rfl⟩
 have hrun:(execOp a.eval o).run P w=.ok (.value (rs b 0 (p+r.length) cap)) w':=by
  obtain ⟨au,cu,rfl⟩:=hu;subst hlen;simp [execOp,ho,F.eval hx,F.eval hy,resolve,invoke,builtin,Builtin.append_,run_underlying hT,run_underlying hT',Builtin.lenOf,E8 hz,hroom,hfc,Qd,e1]
 refine Ue hg hrun (by intro d;simp) ?_
 simp only [Oper.uponIn,hd];refine K (spl arr (p * Rep.n α) cs) _ w' (Xa (by rw [hr.1,← B8];exact hfits)) (ha.splice hr hp hfits).pre ?_ (F.put hn)
 refine St.back k hklt ?_;exact (S.front k hk).write (w':=w') (by rw [e2,Eg]) e3 e5 e6 e7 (Nat.le_of_eq e8.symm)
theorem wl_clearR {ops:Array Oper} {rest:List Oper} {o:Oper} {Q:Exit→Act→World→Prop} {a:Act} {w:World} {g:Gh} {cks:List Hl} {fr:Hl} {T E:TypeId} {x:Operand} {k b p m cd bytes:Nat} {z:Value} {l:List α} {arr:Array Value} {t:TypeId} {z0:α}
  (hg:Region.wanted o (yielded ops a.tmps)=true) (ho:o.op=.call { callee:=.builtin .clear,args:=#[x],argTypes:=#[T] }) (hT:P.underlying T=some (.slice E)) (hE:ElemT P E (Rep.n α) bytes z) (hz0:∀ g,Rep.rep g z0 z.cells.toList)
  (F:Fr n a e) (S:St g cks fr w) (hx:Bn e x=some (rs b (p * Rep.n α) m cd)) (hk:cks[k]? = some [(b,.cells arr t (0,0))]) (ha:CatA g l arr) (hp:p=l.length) (hfit:(p+m) * Rep.n α≤arr.size) (hd:o.dst=Option.none)
  (K:∀ arr' w',arr'.size=arr.size→CatA g l arr'→St g (cks.set k [(b,.cells arr' t (0,0))]) fr w'→wpListIn (RW ρ) 0 P ops Q rest a w'):wpListIn (RW ρ) 0 P ops Q (o::rest) a w:=by
 have hklt:k < cks.length:=by
  rcases Ec k cks.length with h' | h'
  ·exact h'
  ·simp [List.getElem?_eq_none h'] at hk
 have hb:=S.heap k hk
 obtain ⟨i,hi⟩:∃ i,P.info? E=some i:=by
  cases h:P.info? E with
  | none=>have:=hE.size;rw [h] at this;cases this
  | some i=>exact ⟨i,rfl⟩
 have hz:i.zero=some z:=by have:=hE.zero;rw [hi] at this;simpa using this
 have hzl:(Builtin.zeroCells z.cells m).toList.length=m * Rep.n α:=by rw [Array.length_toList,Nh,hE.zsize]
 have hone:∀ u∈(Builtin.zeroCells z.cells m).toList,Tq u=true:=by
  intro u hu;obtain ⟨j,hj,rfl⟩:=Ci hu;have hzo:=Rep.one (hz0 g);refine hzo _ ?_;have hj2:j < m * Rep.n α:=by rw [← hzl];exact hj
  have hn0:0 < Rep.n α:=by
   rcases Nat.eq_zero_or_pos (Rep.n α) with h0 | h0
   ·rw [h0,Nat.mul_zero] at hj2;omega
   ·exact h0
  have hm:=Nat.mod_lt j hn0;simp only [Builtin.zeroCells,Array.getElem_toList,Array.getElem_map,Array.getElem_range];rw [getElem!_pos z.cells _ (by rw [hE.zsize];exact hm)]
  exact Array.getElem_mem_toList _
 obtain ⟨w',e1,e2,e3,e4,e5,e6,e7,e8⟩:=Qi (P:=P) (w:=w) (b:=b) (c:=arr) (t:=t) (vs:=(Builtin.zeroCells z.cells m).toList) (p * Rep.n α) 0 hb (by rw [Eg,hzl,← B8];exact hfit) hone
 have hrun:(execOp a.eval o).run P w=.ok (.value (.tuple #[])) w'∨(m=0∧(execOp a.eval o).run P w=.ok (.value (.tuple #[])) w):=by
  rcases Nat.eq_zero_or_pos m with h0 | h0
  ·right;refine ⟨h0,?_⟩;subst h0;simp [execOp,ho,F.eval hx,resolve,invoke,builtin,Builtin.clear_,run_underlying hT]
  ·left;obtain ⟨m',rfl⟩:∃ m',m=m'+1:=⟨m - 1,by omega⟩
   simp [execOp,ho,F.eval hx,resolve,invoke,builtin,Builtin.clear_,run_underlying hT,zeroValue,typeInfo,hi,hz,e1]
 rcases hrun with hrun | ⟨hm0,hrun⟩
 ·refine Ue hg hrun (by intro d;simp) ?_
  simp only [Oper.uponIn,hd];refine K (spl arr (p * Rep.n α) (Builtin.zeroCells z.cells m).toList) w' (Xa (by rw [hzl,← B8];exact hfit)) ?_ ?_
  ·have hsz:(spl arr (p * Rep.n α) (Builtin.zeroCells z.cells m).toList).size=arr.size:=Xa (by rw [hzl,← B8];exact hfit)
   refine ⟨?_,by rw [hsz];exact ha.le⟩
   have e:((spl arr (p * Rep.n α) (Builtin.zeroCells z.cells m).toList).toList).take (l.length * Rep.n α)=arr.toList.take (l.length * Rep.n α):=by
    have h1:=ha.le;rw [← hp] at h1 ⊢;simp only [spl,Am];rw [Cm (by simp;omega),List.take_take,Nat.min_self]
   rw [e];exact ha.cat
  ·refine St.back k hklt ?_;exact (S.front k hk).write (w':=w') (by rw [e2,Eg]) e3 e5 e6 e7 (Nat.le_of_eq e8.symm)
 ·refine Ue hg hrun (by intro d;simp) ?_
  simp only [Oper.uponIn,hd]
  have hset:cks.set k [(b,.cells arr t (0,0))]=cks:=by
   apply List.ext_getElem? ;intro i;rw [List.getElem?_set];split
   ·rename_i h;subst h;exact hk.symm
   ·rfl
  exact K arr w rfl ha (by rw [hset];exact S)
theorem ev_sliceT {a0:Act} (_F:Fr n a0 e) {T E:TypeId} {x:Operand} {lo hi:Option Operand} {b len cap z p:Nat} (hT:P.underlying T=some (.slice E)) (hz:(P.info? E).map (·.size)=some z) (hx:Bn e x=some (rs b 0 len cap)) (hlo:bnd e lo 0 (p:Int)) (hhi:bnd e hi len (len:Int))
  (h1:p≤len) (h2:len≤cap):∃ o',(p < cap→o'=p * z)∧Ev P n e C (.slice T x lo hi Option.none) (rs b o' (len - p) (cap - p)):=by
 rcases Ec p cap with hlt | hge
 ·refine ⟨p * z,fun _=>rfl,?_⟩;have:=Ll (P:=P) (n:=n) (e:=e) (C:=C) hT hz hx hlo hhi (by omega) (by omega) (by omega) (by omega)
  simpa using this
 ·refine ⟨0,fun h=>by omega,?_⟩
  intro o a w ho F _;have hb:=Mt (P:=P) (isS:=true) (len:=len) (cap:=cap) F hlo hhi (by omega) (by omega) (by omega) w
  obtain rfl:p=cap:=by omega
  simp [execOp,ho,F.eval hx,Instr.sliceAt,Instr.slice,run_underlying hT,hb,E8 hz]
theorem CatA.srcT {g:Gh} {l:List α} {arr:Array Value} (h:CatA g l arr) {cks:List Hl} {fr:Hl} {w:World} {k b:Nat} {t:TypeId} (S:St g cks fr w) (hk:cks[k]? = some [(b,.cells arr t (0,0))]) (p o' m cap cap':Nat) (hp:p≤l.length) (hc:l.length≤cap) (ho:p < cap→o'=p * Rep.n α) (hm:m=l.length - p) :
  ∃ cs,Cat g (l.drop p) cs∧Src w (rs b o' m cap') m (l.drop p).length cs:=by
 rcases Ec p cap with hlt | hge
 ·rw [ho hlt];exact h.srcD S hk p m cap' hp
 ·have:l.drop p=[]:=D8 (by omega)
  rw [this];exact ⟨[],.nil _,.inl ⟨rfl,_,_,rfl⟩⟩
end
theorem ckI {x:Int} (h1 : -9223372036854775808≤x) (h2:x≤9223372036854775807):ckK .i64 x=some x:=by
 unfold ckK inK;rw [Ad (Ag (IntWalk.i64_in _ (by omega)))]
theorem ev_sliceAny {a0:Act} (_F:Fr n a0 e) {T E:TypeId} {x:Operand} {lo hi:Option Operand} {v:Value} {ad:Option Addr} {len cap z:Nat} {p q:Int} (hT:P.underlying T=some (.slice E)) (hz:(P.info? E).map (·.size)=some z) (hx:Bn e x=some v) (hv:v=.slice ad len cap)
  (hlo:bnd e lo 0 p) (hhi:bnd e hi len q) (h0:0≤p) (h1:p≤q) (h2:q≤cap):∃ v',Ev P n e C (.slice T x lo hi Option.none) v':=by
 subst hv;refine ⟨.slice (if cap=p.toNat then ad else ad.map (·.add (p.toNat * z))) (q.toNat - p.toNat) (cap - p.toNat),?_⟩
 intro o ac w ho F _;have hb:=Mt (P:=P) (isS:=true) (len:=len) (cap:=cap) F hlo hhi h0 h1 h2 w;simp [execOp,ho,F.eval hx,Instr.sliceAt,Instr.slice,run_underlying hT,hb,E8 hz]
theorem ev_callxC {f:Operand} {fn:FuncId} {xs:List Operand} {vs:List Value} {A:Array TypeId} {v:Value} (hf:Bn e f=some (.func (.func fn) #[] #[])) (hxs:xs.map (Bn e)=vs.map some)
  (hrun:∀ w,C w→(callFunc fn vs.toArray).run P w=.ok (.value v) w):Ev P n e C (.call { callee:=.value f,args:=xs.toArray,argTypes:=A }) v:=by
 intro o a w ho F hC
 have hm:xs.map a.eval=vs:=by
  clear ho hrun
  induction xs generalizing vs with
  | nil=>cases vs with
   | nil=>rfl
   | cons u r=>simp at hxs
  | cons p r ih=>cases vs with
   | nil=>simp at hxs
   | cons u s =>
    simp only [Dg,List.cons.injEq] at hxs ⊢;exact ⟨F.eval hxs.1,ih hxs.2⟩
 simp [execOp,ho,resolve,F.eval hf,Deferred.ofValue,hm,invoke,hrun w hC]
theorem run_ovl {f : FuncId} {fn : Func} {tS tR el : TypeId} {z : Nat} (hf : P.funcs[f]? = some fn) (hname : (fn.name == "runtime.NumGoroutine") = false)
  (hb:fn.body.isNone=true) (hn:Extern.findNext fn=Option.none) (he:Extern.find fn=some (Extern.SlicesOverlaps.overlaps #[tS,tS] #[tR])) (ht:P.underlying tS=some (.slice el)) (hz:(P.info? el).map (·.size)=some z)
  {g:Gh} {cks:List Hl} {fr:Hl} {w:World} (S:St g cks fr w) {k1 k2 b1 b2 o1 o2 la ca lb cb:Nat} {r1 r2:Array Value} {t1 t2:TypeId} (h1:cks[k1]? = some [(b1,.cells r1 t1 (0,0))]) (h2:cks[k2]? = some [(b2,.cells r2 t2 (0,0))]) (hne:b1≠b2) (h0:r2.size≠0) :
  (callFunc f #[rs b1 o1 la ca,rs b2 o2 lb cb]).run P w=.ok (.value (.bool false)) w:=by
 have e1:=S.heap k1 h1;have e2:=S.heap k2 h2;rw [run_callFunc_extern hf hname hb hn he,Lib.run_overlaps_apart w tS tR el ht z (fun w=>E8 hz w) ⟨b1,o1,Option.none⟩ ⟨b2,o2,Option.none⟩ la ca lb cb hne t1 t2 r1.size r2.size (by simp [World.shape?,e1]) (by simp [World.shape?,e2]) h0 (by simp [World.frozen?,e1]) (by simp [World.frozen?,e1])]
 rfl
theorem blocks_ne {g:Gh} {c1 c2:Nat×Obj} {cks:List Hl} {fr:Hl} {w:World} (S:St g ([c1]::[c2]::cks) fr w):c1.1≠c2.1:=by
 have:=S.nd;simp [fl] at this;exact this.1.1
def ins? {α:Type} (bytes:Nat) (s:List α) (i:Int) (v:List α):Option (List α) :=
 match v with
 | [_]=>if 0≤i∧i≤s.length then (app? bytes s v).bind fun _=>some (s.take i.toNat++v++s.drop i.toNat) else Option.none
 | _=>Option.none
theorem ins?_some {α:Type} {bytes:Nat} {s v r:List α} {i:Int} (h:ins? bytes s i v=some r):∃ p:Nat,i=p∧p≤s.length∧v.length=1∧(s.length+1) * bytes≤140737488355328∧r=s.take p++v++s.drop p:=by
 unfold ins? at h;split at h
 ·rename_i x
  split at h
  ·rename_i hc
   cases ha:app? bytes s [x] with
   | none=>rw [ha] at h;cases h
   | some l =>
    rw [ha] at h;refine ⟨i.toNat,by omega,by omega,rfl,(app?_some ha).1,(Gg h).symm⟩
  ·cases h
 ·cases h
def del? {α:Type} (s:List α) (i j:Int):Option (List α):=if 0≤i∧i≤j∧j≤s.length then some (s.take i.toNat++s.drop j.toNat) else Option.none
theorem del?_some {α:Type} {s r:List α} {i j:Int} (h:del? s i j=some r):∃ p q:Nat,i=p∧j=q∧p≤q∧q≤s.length∧r=s.take p++s.drop q:=by
 unfold del? at h;split at h
 ·rename_i hc
  refine ⟨i.toNat,j.toNat,by omega,by omega,by omega,by omega,(Gg h).symm⟩
 ·cases h
theorem insL1 {α:Type} (s v:List α) (p:Nat) (hp:p≤s.length) (hv:v.length=1) (z:α) (j:Nat) (hj:j=s.length+1 - p) :
  ((((s.take p++List.replicate j z).take p++v++(s.take p++List.replicate j z).drop (p+v.length)).take (p+v.length))++s.drop p++((s.take p++List.replicate j z).take p++v++(s.take p++List.replicate j z).drop (p+v.length)).drop (p+v.length+(s.drop p).length))=s.take p++v++s.drop p:=by
 have h1:(s.take p++List.replicate j z).take p=s.take p:=by
  rw [Cm (by simp;omega),List.take_take,Nat.min_self]
 rw [h1];have h2:(s.take p++v).length=p+v.length:=by simp;omega
 rw [Cm (by omega),Cn (by omega)]
 rw [D8 (i:=p+v.length+(s.drop p).length) (by simp;omega),Bh]
theorem insL2 {α:Type} (s v:List α) (p:Nat) (hp:p < s.length) (hv:v.length=1) :
  (s.take (p+v.length)++s.drop p++s.drop (p+v.length+(s.drop p).length)).take p++v++(s.take (p+v.length)++s.drop p++s.drop (p+v.length+(s.drop p).length)).drop (p+v.length)=s.take p++v++s.drop p:=by
 rw [D8 (i:=p+v.length+(s.drop p).length) (by simp;omega),Bh]
 rw [Cm (by simp;omega),List.take_take,Nat.min_eq_left (by omega)]
 rw [List.drop_append_of_le_length (by simp;omega),D8 (by simp;omega),A8]
def cmpB (p q:ByteArray):Int:=Lib.compareBytes p.data.toList q.data.toList
theorem run_cmpB {fn : Func} {f : FuncId} (hf : P.funcs[f]? = some fn) (hname : (fn.name == "runtime.NumGoroutine") = false)
  (hb:fn.body.isNone=true) (hn:Extern.findNext fn=Option.none) (he:Extern.find fn=some Extern.BytealgCompare.compare) (p q:ByteArray) (w:World) :
  (callFunc f #[.string p,.string q]).run P w=.ok (.value (.int .i64 (cmpB p q))) w:=by
 rw [run_callFunc_extern hf hname hb hn he,Lib.run_compareString];rfl
def grow0 (α:Type) (bytes:Nat) (k:Int):Option (List α):=if 0≤k∧k.toNat * bytes≤140737488355328 then some [] else Option.none
theorem grow0_some {α:Type} {bytes:Nat} {k:Int} {r:List α} (h:grow0 α bytes k=some r):∃ p:Nat,k=p∧p * bytes≤140737488355328∧r=[]:=by
 unfold grow0 at h;split at h
 ·rename_i hc;exact ⟨k.toNat,by omega,hc.2,(Gg h).symm⟩
 ·cases h
theorem ev_slice0 {T E:TypeId} {x:Operand} {lo hi:Option Operand} {z:Nat} (hT:P.underlying T=some (.slice E)) (hz:(P.info? E).map (·.size)=some z) (hx:Bn e x=some (.slice Option.none 0 0)) (hlo:bnd e lo 0 0) (hhi:bnd e hi 0 0) :
  Ev P n e C (.slice T x lo hi Option.none) (.slice Option.none 0 0):=by
 intro o ac w ho F _;have hb:=Mt (P:=P) (isS:=true) (len:=0) (cap:=0) F hlo hhi (by omega) (by omega) (by omega) w
 simp [execOp,ho,F.eval hx,Instr.sliceAt,Instr.slice,run_underlying hT,hb,E8 hz]
end Go.Dc
