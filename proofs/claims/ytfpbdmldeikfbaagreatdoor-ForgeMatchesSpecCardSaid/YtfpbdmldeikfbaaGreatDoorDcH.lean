import Derived.Test.YtfpbdmldeikfbaaGreatDoorDcC
import Derived.Deep.AppendSrc
import Derived.Lib.Bytealg
import Derived.Orders
set_option linter.unusedSimpArgs false
set_option linter.unusedVariables false
namespace Go.Dc
open Go
variable {P : Program} {ρ : Option Nat} {n : Fw} {e : List (Nat × Value)} {C : World → Prop}
theorem oneCell_of {v:Value} (h:Tq v=true):v.oneCell'=true:=by
 cases v <;> simp_all [Tq,Value.oneCell']
def Cat {α:Type} [Rep α] (g:Gh) (l:List α) (cs:List Value):Prop :=
 cs.length=l.length * Rep.n α∧∀ i (h:i < l.length),Rep.rep g l[i] ((cs.drop (i * Rep.n α)).take (Rep.n α))
theorem Cat.one {α:Type} [Rep α] {g:Gh} {l:List α} {cs:List Value} (h:Cat g l cs):∀ u∈cs,Tq u=true:=by
 intro u hu;obtain ⟨j,hj,rfl⟩:=Ci hu
 have hn:0 < Rep.n α:=by
  rcases Nat.eq_zero_or_pos (Rep.n α) with h0 | h0
  ·have:=h.1;rw [h0,Nat.mul_zero] at this;omega
  ·exact h0
 have hq:j / Rep.n α < l.length:=by
  rw [Nat.div_lt_iff_lt_mul hn];rw [← h.1];exact hj
 have hr:=h.2 (j / Rep.n α) hq;refine Rep.one hr _ ?_;have hm:=Nat.mod_lt j hn;have hd:j / Rep.n α * Rep.n α+j % Rep.n α=j:=by rw [Nat.mul_comm];exact Nat.div_add_mod j (Rep.n α)
 refine List.mem_of_getElem? (i:=j % Rep.n α) ?_;rw [List.getElem?_take,Ad hm,List.getElem?_drop,hd,A3 hj]
theorem Cat.mono {α:Type} [Rep α] {g g':Gh} {l:List α} {cs:List Value} (hl:Le g g') (h:Cat g l cs):Cat g' l cs:=⟨h.1,fun i hi=>Rep.mono hl (h.2 i hi)⟩
theorem Cat.append {α:Type} [Rep α] {g:Gh} {l m:List α} {cs ds:List Value} (h:Cat g l cs) (h':Cat g m ds):Cat g (l++m) (cs++ds):=by
 refine ⟨by rw [Aj,Aj,h.1,h'.1,B8],fun i hi=>?_⟩
 rcases Ec i l.length with hlt | hge
 ·rw [Gb hlt]
  have:i * Rep.n α+Rep.n α≤cs.length:=by
   rw [h.1];have:(i+1) * Rep.n α≤l.length * Rep.n α:=Aq _ hlt
   rwa [B8,Nat.one_mul] at this
  rw [List.drop_append_of_le_length (by omega),Cm (by simp;omega)]
  exact h.2 i hlt
 ·rw [Hw hge];have hi':i - l.length < m.length:=by simp at hi;omega
  have hle:cs.length≤i * Rep.n α:=by rw [h.1];exact Aq _ hge
  rw [List.drop_append,D8 hle,A8,h.1,← Nat.sub_mul];exact h'.2 _ hi'
theorem Cat.nil {α:Type} [Rep α] (g:Gh):Cat g ([]:List α) []:=⟨by simp,fun i h=>by simp at h⟩
theorem Cat.single {α:Type} [Rep α] {g:Gh} {x:α} {cs:List Value} (h:Rep.rep g x cs):Cat g [x] cs:=by
 have hl:=Rep.len h;refine ⟨by rw [hl];simp,fun i hi=>?_⟩
 simp at hi;subst hi;simp only [Nat.zero_mul,List.drop_zero,List.getElem_cons_zero];rw [Cn (by omega)]
 exact h
theorem Cat.cons {α:Type} [Rep α] {g:Gh} {x:α} {l:List α} {cs ds:List Value} (h:Rep.rep g x cs) (h':Cat g l ds):Cat g (x::l) (cs++ds) :=
 (Cat.single h).append h'
theorem RepSl.cat {α:Type} [Rep α] {g:Gh} {l:List α} {v:Value} (h:RepSl g l v):∃ cs,Cat g l cs∧((l=[]∧cs=[]∧∃ a cap,v=.slice a 0 cap)∨∃ b off cap,v=.slice (some ⟨b,off,Option.none⟩) l.length cap∧PtrC g (.pointer (some ⟨b,off,Option.none⟩)) cs):=by
 rcases h with ⟨rfl,hv⟩ | ⟨b,off,cap,c,t,fz,h1,h2,h3,h4,h5⟩
 ·exact ⟨[],Cat.nil g,.inl ⟨rfl,rfl,hv⟩⟩
 ·have hlen:((c.toList.drop off).take (l.length * Rep.n α)).length=l.length * Rep.n α:=by simp;omega
  refine ⟨(c.toList.drop off).take (l.length * Rep.n α),⟨hlen,fun i hi=>?_⟩,.inr ⟨b,off,cap,h1,b,off,c,t,fz,rfl,h3,by rw [hlen];exact h4,by rw [hlen]⟩⟩
  have:i * Rep.n α+Rep.n α≤l.length * Rep.n α:=by
   have:(i+1) * Rep.n α≤l.length * Rep.n α:=Aq _ hi
   rwa [B8,Nat.one_mul] at this
  rw [List.drop_take,List.take_take,Gu,Nat.min_eq_left (by omega)]
  exact h5 i hi
theorem OwnS.cat {α:Type} [Rep α] {g:Gh} {l:List α} {v:Value} {c:Hl} (h:OwnS g l v c):∃ cs,Cat g l cs∧((v=.slice Option.none 0 0∧cs=[]∧c=[]) ∨
  ∃ b cap arr t,v=.slice (some ⟨b,0,Option.none⟩) l.length cap∧c=[(b,.cells arr t (0,0))]∧l.length≤cap∧arr.size=cap * Rep.n α∧arr.toList.take (l.length * Rep.n α)=cs):=by
 rcases h with ⟨rfl,rfl,rfl⟩ | ⟨b,cap,arr,t,h1,h2,h3,h4,h5⟩
 ·exact ⟨[],Cat.nil g,.inl ⟨rfl,rfl,rfl⟩⟩
 ·have hle:l.length * Rep.n α≤arr.size:=by rw [h4];exact Aq _ h3
  refine ⟨arr.toList.take (l.length * Rep.n α),⟨by simp;omega,fun i hi=>?_⟩,.inr ⟨b,cap,arr,t,h1,h2,h3,h4,rfl⟩⟩
  have:i * Rep.n α+Rep.n α≤l.length * Rep.n α:=by
   have:(i+1) * Rep.n α≤l.length * Rep.n α:=Aq _ hi
   rwa [B8,Nat.one_mul] at this
  rw [List.drop_take,List.take_take,Nat.min_eq_left (by omega)]
  exact h5 i hi
theorem OwnS.of_cat {α:Type} [Rep α] {g:Gh} {l:List α} {cs:List Value} {b cap:Nat} {arr:Array Value} {t:TypeId} (h:Cat g l cs) (hcap:l.length≤cap) (hs:arr.size=cap * Rep.n α) (ha:arr.toList.take cs.length=cs) :
  OwnS g l (.slice (some ⟨b,0,Option.none⟩) l.length cap) [(b,.cells arr t (0,0))]:=by
 refine .inr ⟨b,cap,arr,t,rfl,rfl,hcap,hs,fun i hi=>?_⟩;have:=h.2 i hi
 have hle:i * Rep.n α+Rep.n α≤cs.length:=by
  rw [h.1];have:(i+1) * Rep.n α≤l.length * Rep.n α:=Aq _ hi
  rwa [B8,Nat.one_mul] at this
 rw [← ha,List.drop_take,List.take_take,Nat.min_eq_left (by omega)] at this
 exact this
def Reads (w:World) (size:Nat) (v:Value) (m:Nat) (cs:List Value):Prop :=
 cs.length=m * size∧(∀ u∈cs,Tq u=true)∧((m=0∧∃ a cap,v=.slice a 0 cap)∨∃ a cap,v=.slice (some a) m cap∧PtrW w (.pointer (some a)) cs)
theorem RepSl.reads {α:Type} [Rep α] {g:Gh} {l:List α} {v:Value} (h:RepSl g l v):∃ cs,Cat g l cs∧∀ (o:Hl) (w:World),St0 g o w→Reads w (Rep.n α) v l.length cs:=by
 obtain ⟨cs,hc,h'⟩:=h.cat;refine ⟨cs,hc,fun o w s=>⟨hc.1,hc.one,?_⟩⟩;rcases h' with ⟨rfl,rfl,hv⟩ | ⟨b,off,cap,rfl,hp⟩
 ·exact .inl ⟨rfl,hv⟩
 ·exact .inr ⟨_,_,rfl,hp.at s⟩
theorem OwnS.reads {α:Type} [Rep α] {g:Gh} {l:List α} {v:Value} {c:Hl} (h:OwnS g l v c):∃ cs,Cat g l cs∧∀ (w:World) (cks:List Hl) (fr:Hl) (k:Nat),cks[k]? = some c→St g cks fr w→Reads w (Rep.n α) v l.length cs:=by
 obtain ⟨cs,hc,h'⟩:=h.cat;refine ⟨cs,hc,fun w cks fr k hk s=>⟨hc.1,hc.one,?_⟩⟩;rcases h' with ⟨rfl,rfl,rfl⟩ | ⟨b,cap,arr,t,rfl,rfl,h3,h4,h5⟩
 ·refine .inl ⟨?_,_,_,rfl⟩;rcases h with ⟨_,rfl,_⟩ | ⟨_,_,_,_,hh,_⟩
  ·rfl
  ·cases hh
 ·have hle:l.length * Rep.n α≤arr.size:=by rw [h4];exact Aq _ h3
  exact .inr ⟨_,_,rfl,b,0,arr,t,(0,0),rfl,s.heap k hk,by rw [hc.1];omega,by rw [hc.1,List.drop_zero];exact h5⟩
theorem Reads.src {w:World} {size:Nat} {tx e':TypeId} {v:Value} {m:Nat} {cs:List Value} (hk:P.underlying tx=some (.slice e')) (h:Reads w size v m cs):Src P size tx v m cs w:=by
 obtain ⟨h1,h2,h3⟩:=h;rcases h3 with ⟨rfl,a,cap,rfl⟩ | ⟨a,cap,rfl,hp⟩
 ·have:cs=[]:=by simpa using h1
  subst this;cases a with
  | none=>exact Src.ofNil w hk cap
  | some a=>exact Src.ofSlice w hk a 0 cap [] (by simp) (fun j u h=>by simp at h) (fun u h=>by cases h)
 ·obtain ⟨b,off,he,hc⟩:=X7 hp;cases he;refine Src.ofSlice w hk _ _ _ cs h1 (fun j u hj=>?_) (fun u hu=>oneCell_of (h2 u hu));rw [Qd];exact hc j u hj
def app? {α:Type} (bytes:Nat) (l r:List α):Option (List α):=if (l.length+r.length) * bytes≤140737488355328 then some (l++r) else Option.none
theorem app?_some {α:Type} {bytes:Nat} {l r m:List α} (h:app? bytes l r=some m):(l.length+r.length) * bytes≤140737488355328∧m=l++r:=by
 unfold app? at h;split at h
 ·rename_i hh;cases h;exact ⟨hh,rfl⟩
 ·cases h
theorem growBy_le (need:Nat):∀ (r c:Nat),c < need→Builtin.growBy need r c≤need+(need+768) / 4
 | 0,c,h=>by simp [Builtin.growBy];omega
 | r+1,c,h=>by
  simp only [Builtin.growBy];split
  ·omega
  ·rcases Ec (c+(c+768) / 4) need with h' | h'
   ·exact growBy_le need r _ h'
   ·cases r with
    | zero=>simp only [Builtin.growBy];omega
    | succ r=>simp only [Builtin.growBy];rw [Ad h'];omega
theorem nextcap_le (need old:Nat) (h:old < need):Builtin.nextslicecap need old≤need+(need+768) / 4+512:=by
 unfold Builtin.nextslicecap;split
 ·omega
 ·split
  ·omega
  ·have:=growBy_le need 4 old h;omega
theorem fits {need old bytes:Nat} (h:old < need) (hb:need * bytes≤140737488355328) (hs:bytes≤1000000):Builtin.nextslicecap need old * bytes≤281474976710656:=by
 refine Bx (Aq _ (nextcap_le need old h)) ?_;have h1:(need+(need+768) / 4+512) * bytes=need * bytes+((need+768) / 4) * bytes+512 * bytes:=by rw [B8,B8]
 have h2:((need+768) / 4) * bytes≤(need * bytes+768 * bytes):=by
  rw [← B8];exact Aq _ (Nat.div_le_self _ _)
 have h3:((need+768) / 4) * bytes * 4≤need * bytes+768 * bytes:=by
  rw [← B8,Nat.mul_right_comm];exact Aq _ (Nat.div_mul_le_self _ _)
 omega
theorem Nh (z:Array Value) (k:Nat):(Builtin.zeroCells z k).size=k * z.size:=by simp [Builtin.zeroCells]
structure ElemT (P:Program) (E:TypeId) (m b:Nat) (z:Value):Prop where
 size:(P.info? E).map (·.size)=some m
 bytes:(P.info? E).map (·.bytes)=some b
 zero:(P.info? E).bind (·.zero)=some z
 zsize:z.cells.size=m
theorem Lk {α:Type} [Rep α] {ops:Array Oper} {rest:List Oper} {o:Oper} {Q:Exit→Act→World→Prop} {a:Act} {w:World} {g:Gh} {cks:List Hl} {fr:Hl} {T T' E E':TypeId} {x y:Operand} {k d bytes m:Nat} {z v u:Value} {c:Hl} {l r l':List α} {cs:List Value}
  (hg:Region.wanted o (yielded ops a.tmps)=true) (ho:o.op=.call { callee:=.builtin .append,args:=#[x,y],argTypes:=#[T,T'] }) (hT:P.underlying T=some (.slice E)) (hT':P.underlying T'=some (.slice E')) (hE:ElemT P E (Rep.n α) bytes z) (hbz:bytes≤1000000) (hbp:0 < bytes)
  (F:Fr n a e) (S:St g cks fr w) (hx:Bn e x=some v) (hy:Bn e y=some u) (hk:cks[k]? = some c) (ho':OwnS g l v c) (hr:Cat g r cs) (hm:m=r.length) (hrd:Reads w (Rep.n α) u m cs) (hl':app? bytes l r=some l') (hd:o.dst=some d) (hn:Nat.blt d n.sz=true)
  (K:∀ v' c' a' w',OwnS g l' v' c'→St g (cks.set k c') fr w'→Fr n a' ((d,v')::e)→wpListIn (RW ρ) 0 P ops Q rest a' w'):wpListIn (RW ρ) 0 P ops Q (o::rest) a w:=by
 obtain ⟨hroom,rfl⟩:=app?_some hl';subst hm
 have hklt:k < cks.length:=by
  rcases Ec k cks.length with h' | h'
  ·exact h'
  ·simp [List.getElem?_eq_none h'] at hk
 obtain ⟨i,hi⟩:∃ i,P.info? E=some i:=by
  cases h:P.info? E with
  | none=>have:=hE.size;rw [h] at this;cases this
  | some i=>exact ⟨i,rfl⟩
 have hsz:i.size=Rep.n α:=by have:=hE.size;rw [hi] at this;simpa using this
 have hby:i.bytes=bytes:=by have:=hE.bytes;rw [hi] at this;simpa using this
 have hz:i.zero=some z:=by have:=hE.zero;rw [hi] at this;simpa using this
 have hsrc:=hrd.src (P:=P) hT'
 have hent:∀ v' w',(Builtin.append_ #[T,T'] o.type #[v,u]).run P w=.ok v' w'→(execOp a.eval o).run P w=.ok (.value v') w':=by
  intro v' w' h;simp [execOp,ho,F.eval hx,F.eval hy,resolve,invoke,builtin,h]
 have close:∀ v' w' c',(Builtin.append_ #[T,T'] o.type #[v,u]).run P w=.ok v' w'→OwnS g (l++r) v' c'→St g (cks.set k c') fr w'→wpListIn (RW ρ) 0 P ops Q (o::rest) a w:=by
  intro v' w' c' h1 h2 h3;refine Ue hg (hent _ _ h1) (by intro d;simp) ?_
  simp only [Oper.uponIn,hd];exact K v' c' _ w' h2 h3 (F.put hn)
 obtain ⟨cs0,hcat,hown⟩:=ho'.cat
 have grow:∀ (base:Option Addr) (cap:Nat),v=.slice base l.length cap→cap < l.length+r.length→(Builtin.firstCells i.size l.length (.slice base l.length cap)).run P w.drew=.ok cs0.toArray w.drew→wpListIn (RW ρ) 0 P ops Q (o::rest) a w:=by
  intro base cap hv hlt hold
  have h63:((l.length+r.length:Nat):Int)≤9223372036854775807:=by
   have:l.length+r.length≤(l.length+r.length) * bytes:=Nat.le_mul_of_pos_right _ hbp;omega
  have hrun:=run_append_grow_src (P:=P) w T T' o.type E i z hT hi hz base l.length cap cs0 hold u r.length cs (by rw [hsz];exact hsrc) hlt h63 (by rw [hby];exact fits hlt hroom hbz)
  rw [← hv] at hrun;have hge:=grownCap_ge w (l.length+r.length) cap E;refine close _ _ [(w.heap.size,.cells ((cs0++cs).toArray++Builtin.zeroCells z.cells (grownCap w (l.length+r.length) cap E - (l.length+r.length))) E (0,0))] hrun ?_ ?_
  ·have hcc:=hcat.append hr;rw [← Aj];refine OwnS.of_cat hcc (by simpa using hge) ?_ ?_
   ·simp only [Array.size_append,List.size_toArray,Nh,hE.zsize];rw [hcc.1,← B8,Aj];congr 1;omega
   ·rw [Array.toList_append,Cm (by simp),Cn (by simp)]
  ·refine St.back k hklt ?_;have h2:=(S.front k hk).drop;exact h2.push rfl rfl rfl rfl
 rcases hown with ⟨rfl,rfl,rfl⟩ | ⟨b,cap,arr,t,rfl,rfl,h3,h4,h5⟩
 ·
  have hl0:l=[]:=by
   rcases ho' with ⟨_,h,_⟩ | ⟨_,_,_,_,h,_⟩
   ·exact h
   ·cases h
  subst hl0;rcases Nat.eq_zero_or_pos r.length with h0 | h0
  ·have hr0:r=[]:=Db h0;subst hr0;have hcs:cs=[]:=by have:=hr.1;simpa using this
   subst hcs;refine close (.slice Option.none 0 0) w [] ?_ (by simpa using OwnS.nil g) ?_
   ·have hln:=hsrc.len w;have hc0:=hsrc.cells;simp only [Ey] at hln hc0;rcases hsrc.kind with ⟨e',hk'⟩ | hk' <;> simp [Builtin.append_,run_underlying hT,run_underlying hk',sizeOf,typeInfo,hi,hln,hsz,hc0]
   ·have:=Ny (l:=cks) (i:=k) (a:=([]:Hl))
    have hset:cks.set k []=cks:=by
     apply List.ext_getElem?;intro j;by_cases hj:k=j
     ·subst hj;rw [List.getElem?_set_self hklt,hk]
     ·rw [List.getElem?_set_ne hj]
    rw [hset];exact S
  ·exact grow Option.none 0 rfl (by simpa using h0) (by simpa using run_firstCells_none (P:=P) w.drew i.size 0 0 0)
 ·by_cases hfit:l.length+r.length≤cap
  ·
   have hb:=S.heap k hk
   have hfits:l.length * Rep.n α+cs.length≤arr.size:=by
    rw [hr.1,← B8,h4];exact Aq _ hfit
   obtain ⟨w',e1,e2,e3,e4,e5,e6,e7,e8⟩:=Qi (P:=P) (w:=w) (b:=b) (c:=arr) (t:=t) (vs:=cs) (l.length * Rep.n α) 0 hb (by simpa using hfits) hr.one
   refine close (.slice (some ⟨b,0,Option.none⟩) (l.length+r.length) cap) w' [(b,.cells (spl arr (l.length * Rep.n α) cs) t (0,0))] ?_ ?_ ?_
   ·have hcl:=hsrc.cells;rcases hsrc.kind with ⟨e',hk'⟩ | hk' <;> simp [Builtin.append_,run_underlying hT,run_underlying hk',sizeOf,typeInfo,hi,hsrc.len,hfit,hsz,hcl,Qd,e1]
   ·have hcc:=hcat.append hr;rw [← Aj];refine OwnS.of_cat hcc (by simpa using hfit) ?_ ?_
    ·rw [Xa hfits,h4]
    ·have h0:=hcat.1;simp only [spl,← h5];rw [Cm (by simp),Cn (by simp)]
   ·refine St.back k hklt ?_;exact (S.front k hk).write (w':=w') (by rw [e2];simp) e3 e5 e6 e7 (Nat.le_of_eq e8.symm)
  ·
   refine grow (some ⟨b,0,Option.none⟩) cap rfl (by omega) ?_
   have hb:=S.heap k hk;refine run_firstCells_some (P:=P) w.drew i.size l.length ⟨b,0,Option.none⟩ l.length cap cs0 (by rw [hcat.1,hsz]) ?_
   intro j u' hj;rw [Qd,Gc]
   have hjl:j < cs0.length:=by
    rcases Ec j cs0.length with h' | h'
    ·exact h'
    ·simp [List.getElem?_eq_none h'] at hj
   have hjl':=hjl;rw [hcat.1] at hjl';have hbd:w.drew.heap[b]? = some (.cells arr t (0,0)):=hb;rw [cell_at hbd];rw [← h5,List.getElem?_take,Ad hjl'] at hj;simpa using hj
end Go.Dc
namespace Go.Dc
open Go
variable {P : Program} {ρ : Option Nat} {n : Fw} {e : List (Nat × Value)} {C : World → Prop}
theorem fill_one (v:Value):∀ (cs:List Value) (arr:Array Value) (off j:Nat),off+j+cs.length≤arr.size →
  (cs.zipIdx j).foldl (fun (acc:Array Value) (p:Value×Nat)=>acc.setIfInBounds (off+p.2) p.1) arr=spl arr (off+j) cs
 | [],arr,off,j,h=>by simp [spl]
 | c::cs,arr,off,j,h=>by
  simp only [Eb] at h;simp only [List.zipIdx_cons,Hg];rw [fill_one v cs _ off (j+1) (by simp;omega)]
  simp only [spl];congr 1;rw [Array.toList_setIfInBounds];have hlt:off+j < arr.toList.length:=by simp;omega
  rw [show off+(j+1)=off+j+1 from by omega,List.take_set,As hlt,List.set_append_right _ _ (by rw [Bl];omega),List.drop_set_of_lt (by omega)]
  have hs:off+j - (List.take (off+j) arr.toList).length=0:=by rw [Bl];omega
  rw [hs];simp only [List.set_cons_zero,Eb,Am,List.cons_append,A8];rw [show off+j+1+cs.length=off+j+(cs.length+1) from by omega]
def Q7:Nat→List Value→List (Nat×Value)
 | _,[]=>[]
 | j,v::r=>(j,v)::Q7 (j+1) r
def Ku (vs:List Value):List Value:=vs.flatMap fun v=>v.cells.toList
theorem fill_all (size:Nat):∀ (vs:List Value) (arr:Array Value) (j:Nat),(∀ v∈vs,v.cells.size=size)→(j+vs.length) * size≤arr.size →
  Instr.fill (fun i=>some (i * size,size)) arr (Q7 j vs)=some (spl arr (j * size) (Ku vs))
 | [],arr,j,_,h=>by simp [Q7,Instr.fill,Ku,spl]
 | v::vs,arr,j,hv,h=>by
  have h1:=hv v (by simp)
  simp only [Eb] at h
  have hle:j * size+size≤arr.size:=by
   have:(j+1) * size≤(j+(vs.length+1)) * size:=Aq _ (by omega)
   rw [B8,Nat.one_mul] at this;omega
  simp only [Q7,Instr.fill,h1];rw [Ac (by simp;omega)]
  have hz:(v.cells.zipIdx.foldl (fun (cs:Array Value) (p:Value×Nat)=>cs.setIfInBounds (j * size+p.2) p.1) arr)=spl arr (j * size) v.cells.toList:=by
   have:=fill_one v v.cells.toList arr (j * size) 0 (by simp [h1];omega)
   simp only [Eg] at this;rw [← this,← Array.foldl_toList];simp
  have hz':(v.cells.zipIdx.foldl (fun (cs:Array Value) (x:Value×Nat)=>match x with | (c,k)=>cs.setIfInBounds (j * size+k) c) arr)=spl arr (j * size) v.cells.toList:=hz
  rw [hz'];have hsp:(spl arr (j * size) v.cells.toList).size=arr.size:=Xa (by simp [h1];omega)
  rw [fill_all size vs _ (j+1) (fun u hu=>hv u (by simp [hu])) (by rw [hsp,show j+1+vs.length=j+(vs.length+1) from by omega];exact h)]
  congr 1;have hj:(j+1) * size=j * size+size:=by rw [B8,Nat.one_mul]
  have hlenv:v.cells.toList.length=size:=by simpa using h1
  simp only [spl,Ku,Nj,hj];congr 1;rw [Cm (by simp;omega),Cn (by simp;omega)]
  rw [List.drop_append,D8 (by simp;omega),A8,Gu]
  simp only [Am,Aj,Bl,hlenv,Array.length_toList];congr 3;rw [show min (j * size) arr.size=j * size from by omega]
  congr 1;omega
theorem run_buildSlice {T E:TypeId} {m b:Nat} {z:Value} {vs:List Value} (hT:P.underlying T=some (.slice E)) (hE:ElemT P E m b z) (hv:∀ v∈vs,v.cells.size=m) (hl:vs.length * m≤16777216) (w:World) :
  (Instr.buildSlice T vs.length (Q7 0 vs).toArray).run P w=.ok (.slice (some ⟨w.heap.size,0,Option.none⟩) vs.length vs.length) { w with heap:=w.heap.push (.cells (Ku vs).toArray E) }:=by
 have hle:¬ (vs.length * m > 16777216):=by omega
 have hlen:(Ku vs).length=vs.length * m:=by
  unfold Ku;clear hl hle
  induction vs with
  | nil=>simp
  | cons v r ih =>
   simp only [Nj,Aj,Eb,Array.length_toList];rw [ih (fun u hu=>hv u (by simp [hu])),hv v (by simp),B8,Nat.one_mul,Nat.add_comm]
 have hfill:∀ arr:Array Value,arr.size=vs.length * m→Instr.fill (fun i=>some (i * m,m)) arr (Q7 0 vs)=some (Ku vs).toArray:=by
  intro arr ha;rw [fill_all m vs arr 0 hv (by simp;omega)]
  simp only [spl,Nat.zero_mul,G6,A8,Gc,hlen];rw [D8 (by simp;omega),Bh]
 by_cases h0:vs.length * m=0
 ·simp [Instr.buildSlice,run_underlying hT,E8 hE.size,h0,hfill,newRow,newObj,Sem.run]
 ·simp [Instr.buildSlice,run_underlying hT,E8 hE.size,hle,h0,hfill,run_zero' hE.zero,newRow,newObj,Sem.run]
theorem wl_buildSlice {ops:Array Oper} {rest:List Oper} {o:Oper} {Q:Exit→Act→World→Prop} {a:Act} {w:World} {g:Gh} {cks:List Hl} {fr:Hl} {T E:TypeId} {parts:List (Nat×Operand)} {vs cs:List Value} {d m b L:Nat} {z:Value}
  (hg:Region.wanted o (yielded ops a.tmps)=true) (ho:o.op=.buildSlice T L parts.toArray) (hL:vs.length=L) (hp:parts.map (fun p=>(p.1,Bn e p.2))=(Q7 0 vs).map (fun p=>(p.1,some p.2))) (hT:P.underlying T=some (.slice E)) (hE:ElemT P E m b z)
  (hv:∀ v∈vs,v.cells.size=m) (hl:vs.length * m≤16777216) (hcs:Ku vs=cs) (F:Fr n a e) (S:St g cks fr w) (hd:o.dst=some d) (hn:Nat.blt d n.sz=true)
  (K:∀ b' a' w',Fr n a' ((d,.slice (some ⟨b',0,Option.none⟩) vs.length vs.length)::e)→St g ([(b',.cells cs.toArray E (0,0))]::cks) fr w'→wpListIn (RW ρ) 0 P ops Q rest a' w'):wpListIn (RW ρ) 0 P ops Q (o::rest) a w:=by
 have hm:parts.map (fun (i,x)=>(i,a.eval x))=Q7 0 vs:=by
  generalize Q7 0 vs=us at hp;clear ho
  induction parts generalizing us with
  | nil=>cases us with
   | nil=>rfl
   | cons u r=>simp at hp
  | cons p r ih=>cases us with
   | nil=>simp at hp
   | cons u s =>
    simp only [Dg,List.cons.injEq,Prod.mk.injEq] at hp;simp only [Dg,List.cons.injEq];exact ⟨Prod.ext hp.1.1 (F.eval hp.1.2),ih s hp.2⟩
 have hrun:=run_buildSlice (P:=P) hT hE hv hl w
 have:(execOp a.eval o).run P w=.ok (.value (.slice (some ⟨w.heap.size,0,Option.none⟩) vs.length vs.length)) { w with heap:=w.heap.push (.cells (Ku vs).toArray E) }:=by
  subst hL;simp [execOp,ho,hm,hrun]
 refine Ue hg this (by intro d;simp) ?_
 simp only [Oper.uponIn,hd];subst hcs;exact K w.heap.size _ _ (F.put hn) (S.push rfl rfl rfl rfl)
theorem OwnS.lit {α:Type} [Rep α] {g:Gh} {l:List α} {cs:List Value} {b L:Nat} {t:TypeId} (h:Cat g l cs) (hL:L=l.length):OwnS g l (.slice (some ⟨b,0,Option.none⟩) L L) [(b,.cells cs.toArray t (0,0))]:=by
 subst hL;exact OwnS.of_cat h (B7 _) (by simpa using h.1) (by simp)
def mk? {α:Type} (bytes:Nat) (m:Int) (x:α):Option (List α):=if 0≤m∧m * bytes≤140737488355328 then some (List.replicate m.toNat x) else Option.none
theorem Zb {α:Type} [Rep α] {ops:Array Oper} {rest:List Oper} {o:Oper} {Q:Exit→Act→World→Prop} {a:Act} {w:World} {g:Gh} {cks:List Hl} {fr:Hl} {T E:TypeId} {x:Operand} {d b:Nat} {m:Int} {z:Value} {x0:α} {l:List α}
  (hg:Region.wanted o (yielded ops a.tmps)=true) (ho:o.op=.makeSlice T x x) (hT:P.underlying T=some (.slice E)) (hE:ElemT P E (Rep.n α) b z) (hz:∀ g,Rep.rep g x0 z.cells.toList) (hx:Bn e x=some (.int .i64 m)) (hl:mk? b m x0=some l) (hb:0 < b)
  (F:Fr n a e) (S:St g cks fr w) (hd:o.dst=some d) (hn:Nat.blt d n.sz=true)
  (K:∀ v c a' w',OwnS g l v c→Fr n a' ((d,v)::e)→St g (c::cks) fr w'→wpListIn (RW ρ) 0 P ops Q rest a' w'):wpListIn (RW ρ) 0 P ops Q (o::rest) a w:=by
 unfold mk? at hl;split at hl
 case isFalse=>cases hl
 rename_i hm
 cases hl;obtain ⟨h0,h1⟩:=hm;obtain ⟨k,rfl⟩:=Int.eq_ofNat_of_zero_le h0
 have hkb:k * b≤140737488355328:=by
  have h2:((k * b:Nat):Int)≤140737488355328:=by rw [Int.natCast_mul];exact h1
  omega
 have hk1:k≤140737488355328:=Bx (Nat.le_mul_of_pos_right _ hb) hkb;have hw:IntKind.i64.wrap (k:Int)=k:=IntWalk.i64_in _ (by omega)
 obtain ⟨i,hi⟩:∃ i,P.info? E=some i:=by
  cases h:P.info? E with
  | none=>have:=hE.size;rw [h] at this;cases this
  | some i=>exact ⟨i,rfl⟩
 have hsz:i.size=Rep.n α:=by have:=hE.size;rw [hi] at this;simpa using this
 have hby:i.bytes=b:=by have:=hE.bytes;rw [hi] at this;simpa using this
 have hzz:i.zero=some z:=by have:=hE.zero;rw [hi] at this;simpa using this
 have hkb':¬ ((281474976710656:Int) < b * (k:Int)):=by
  have:(b:Int) * (k:Int)=((k * b:Nat):Int):=by rw [Int.natCast_mul,Int.mul_comm]
  rw [this];omega
 have hneg:¬ ((k:Int) < 0):=by omega
 let arr:Array Value:=(Array.range (k * Rep.n α)).map fun j=>z.cells[j % z.cells.size]!
 have hrun:(execOp a.eval o).run P w=.ok (.value (.slice (some ⟨w.heap.size,0,Option.none⟩) k k)) { w with heap:=w.heap.push (.cells arr E) }:=by
  by_cases hn0:k * Rep.n α=0
  ·have:arr=#[]:=by simp [arr,hn0]
   simp [execOp,ho,F.eval hx,Instr.makeSlice,asInt,asIntOf,run_underlying hT,typeInfo,hi,hby,hw,hkb',hneg,sizeOf,hsz,hn0,newRow,newObj,Sem.run,this];rw [show (Array.map (fun _=>default) (Array.range 0):Array Value)=#[] from by apply Array.eq_empty_of_size_eq_zero;simp]
  ·simp [execOp,ho,F.eval hx,Instr.makeSlice,asInt,asIntOf,run_underlying hT,typeInfo,hi,hby,hw,hkb',hneg,sizeOf,hsz,hn0,newRow,newObj,Sem.run,zeroValue,hzz];rfl
 refine Ue hg hrun (by intro d;simp) ?_
 simp only [Oper.uponIn,hd];refine K _ [(w.heap.size,.cells arr E (0,0))] _ _ ?_ (F.put hn) (S.push rfl rfl rfl rfl);have hzn:z.cells.size=Rep.n α:=hE.zsize;refine .inr ⟨w.heap.size,k,arr,E,by simp,rfl,by simp,by simp [arr],?_⟩
 intro j hj;simp only [Ay,Gn] at hj;simp only [List.getElem_replicate]
 have:(arr.toList.drop (j * Rep.n α)).take (Rep.n α)=z.cells.toList:=by
  have hle:j * Rep.n α+Rep.n α≤k * Rep.n α:=by
   have:(j+1) * Rep.n α≤k * Rep.n α:=Aq _ hj
   rwa [B8,Nat.one_mul] at this
  apply List.ext_getElem
  ·simp [arr,hzn];omega
  ·intro q hq1 hq2;simp only [Ew,D3,arr,Array.getElem_toList,Array.getElem_map,Array.getElem_range];have hq3:q < Rep.n α:=by simp at hq2;omega
   have:(j * Rep.n α+q) % z.cells.size=q:=by
    rw [hzn,Nat.mul_comm,Nat.mul_add_mod];exact Vn hq3
   rw [this,getElem!_pos z.cells q (by omega)]
 rw [this];exact hz g
def cut? {α:Type} (l:List α) (lo hi:Int):Option (List α):=if 0≤lo∧lo≤hi∧hi≤l.length then some ((l.take hi.toNat).drop lo.toNat) else Option.none
def scut? (s:ByteArray) (lo hi:Int):Option ByteArray:=if 0≤lo∧lo≤hi∧hi≤s.size then some (s.extract lo.toNat hi.toNat) else Option.none
def bnd (e:List (Nat×Value)) (x:Option Operand) (d i:Int):Prop :=
 match x with
 | Option.none=>i=d
 | some y=>∃ k,Bn e y=some (.int k i)
theorem Mt {isS:Bool} {a:Act} {len cap:Nat} {lo hi:Option Operand} {l h:Int} (F:Fr n a e) (hl:bnd e lo 0 l) (hh:bnd e hi len h) (h0:0≤l) (h1:l≤h) (h2:h≤cap) (w:World) :
  (Instr.sliceBounds isS len cap (lo.map a.eval) (hi.map a.eval) Option.none).run P w=.ok (l.toNat,h.toNat,cap) w:=by
 have hl2:l≤((h.toNat:Nat):Int):=by omega
 have hh2:0≤h:=by omega
 cases hi with
 | none =>
  simp only [bnd] at hh;cases lo with
  | none =>
   simp only [bnd] at hl;subst hl;simp [Instr.sliceBounds,hh]
  | some y =>
   obtain ⟨k,hy⟩:=hl;have hl3:l≤(len:Int):=by omega
   simp [Instr.sliceBounds,Instr.sliceBound,F.eval hy,asIntOf,h0,hl3,hh]
 | some yh =>
  obtain ⟨kh,hyh⟩:=hh;cases lo with
  | none =>
   simp only [bnd] at hl;subst hl;simp [Instr.sliceBounds,Instr.sliceBound,F.eval hyh,asIntOf,hh2,h2]
  | some y =>
   obtain ⟨k,hy⟩:=hl;simp [Instr.sliceBounds,Instr.sliceBound,F.eval hyh,F.eval hy,asIntOf,hh2,h2,h0];omega
theorem ev_cut {α:Type} [Rep α] {g:Gh} {l:List α} {v:Value} {T E:TypeId} {x:Operand} {lo hi:Option Operand} {p q:Int} {l':List α} (hr:RepSl g l v) (hc:cut? l p q=some l') (hT:P.underlying T=some (.slice E)) (hz:(P.info? E).map (·.size)=some (Rep.n α))
  (hx:Bn e x=some v) (hlo:bnd e lo 0 p) (hhi:bnd e hi l.length q):∃ v',RepSl g l' v'∧Ev P n e C (.slice T x lo hi Option.none) v':=by
 unfold cut? at hc;split at hc
 case isFalse=>cases hc
 rename_i hb
 cases hc;obtain ⟨h0,h1,h2⟩:=hb;rcases hr with ⟨rfl,a0,cap,rfl⟩ | ⟨b,off,cap,c,t,fz,rfl,h3,h4,h5,h6⟩
 ·have hq:q=0:=by simp at h2;omega
  have hp:p=0:=by omega
  subst hq;subst hp;refine ⟨.slice (if cap=0 then a0 else a0.map (·.add (0 * Rep.n α))) 0 cap,.inl ⟨by simp,_,_,rfl⟩,?_⟩
  intro o a w ho F _;have hb:=Mt (P:=P) (isS:=true) (len:=0) (cap:=cap) F hlo (by simpa using hhi) (Int.le_refl 0) (Int.le_refl 0) (by omega) w
  simp [execOp,ho,F.eval hx,Instr.sliceAt,Instr.slice,run_underlying hT,hb,E8 hz]
 ·obtain ⟨p,rfl⟩:=Int.eq_ofNat_of_zero_le h0;obtain ⟨q,rfl⟩:=Int.eq_ofNat_of_zero_le (show 0≤q from by omega)
  have hpq:p≤q:=by omega
  have hql:q≤l.length:=by omega
  have hlen:((l.take q).drop p).length=q - p:=by simp;omega
  refine ⟨.slice (some (if cap=p then ⟨b,off,Option.none⟩ else ⟨b,off+p * Rep.n α,Option.none⟩)) (q - p) (cap - p),?_,?_⟩
  ·by_cases hcp:cap=p
   ·rw [Ad hcp];have hqp:q - p=0:=by omega
    have hnil:(l.take q).drop p=[]:=by apply Db;omega
    simp only [Ay,hnil,hqp];exact .inr ⟨b,off,cap - p,c,t,fz,rfl,by simp,h4,by simp;omega,fun i hi=>by simp at hi⟩
   ·rw [Ac hcp];refine .inr ⟨b,off+p * Rep.n α,cap - p,c,t,fz,by simp [hlen],by simp;omega,h4,?_,?_⟩
    ·simp only [Ay,hlen]
     have:p * Rep.n α+(q - p) * Rep.n α≤l.length * Rep.n α:=by
      rw [← B8];exact Aq _ (by omega)
     omega
    ·intro i hi;simp only [Ay] at hi ⊢;have hi':i < q - p:=by rw [hlen] at hi;exact hi
     have:=h6 (p+i) (by omega)
     simp only [D3,Ew];rw [B8,← Nat.add_assoc] at this;exact this
  ·intro o a w ho F _;have hb:=Mt (P:=P) (isS:=true) (len:=l.length) (cap:=cap) F hlo hhi (by omega) h1 (by omega) w
   simp [execOp,ho,F.eval hx,Instr.sliceAt,Instr.slice,run_underlying hT,hb,E8 hz,Qd];split <;> rfl
theorem ev_cutOwn {α:Type} [Rep α] {g:Gh} {l:List α} {v:Value} {c:Hl} {T E:TypeId} {x:Operand} {lo hi:Option Operand} {q:Int} {l':List α} (hr:OwnS g l v c) (hc:cut? l 0 q=some l') (hT:P.underlying T=some (.slice E)) (hz:(P.info? E).map (·.size)=some (Rep.n α))
  (hx:Bn e x=some v) (hlo:bnd e lo 0 0) (hhi:bnd e hi l.length q):∃ v',OwnS g l' v' c∧Ev P n e C (.slice T x lo hi Option.none) v':=by
 unfold cut? at hc;split at hc
 case isFalse=>cases hc
 rename_i hb
 cases hc;obtain ⟨h0,h1,h2⟩:=hb;rcases hr with ⟨rfl,rfl,rfl⟩ | ⟨b,cap,arr,t,rfl,rfl,h3,h4,h5⟩
 ·have hq:q=0:=by simp at h2;omega
  subst hq;refine ⟨.slice Option.none 0 0,by simpa using OwnS.nil g,?_⟩
  intro o a w ho F _;have hb:=Mt (P:=P) (isS:=true) (len:=0) (cap:=0) F hlo (by simpa using hhi) (Int.le_refl 0) (Int.le_refl 0) (by omega) w
  simp [execOp,ho,F.eval hx,Instr.sliceAt,Instr.slice,run_underlying hT,hb,E8 hz]
 ·obtain ⟨q,rfl⟩:=Int.eq_ofNat_of_zero_le h1;have hql:q≤l.length:=by omega
  have hlen:(l.take q).length=q:=by simp;omega
  refine ⟨.slice (some ⟨b,0,Option.none⟩) q cap,?_,?_⟩
  ·refine .inr ⟨b,cap,arr,t,by simp [hlen],rfl,by simp;omega,h4,?_⟩
   intro i hi;simp only [Ay,Int.toNat_zero,List.drop_zero] at hi ⊢;rw [hlen] at hi;simp only [Ew];exact h5 i (by omega)
  ·intro o a w ho F _;have hb:=Mt (P:=P) (isS:=true) (len:=l.length) (cap:=cap) F hlo hhi (by omega) (by omega) (by omega) w
   simp [execOp,ho,F.eval hx,Instr.sliceAt,Instr.slice,run_underlying hT,hb,E8 hz,Qd]
theorem ev_scut {s s':ByteArray} {T:TypeId} {x:Operand} {lo hi:Option Operand} {p q:Int} (hc:scut? s p q=some s') (hT:P.underlying T=some .string)
  (hx:Bn e x=some (.string s)) (hlo:bnd e lo 0 p) (hhi:bnd e hi s.size q):Ev P n e C (.slice T x lo hi Option.none) (.string s'):=by
 unfold scut? at hc;split at hc
 case isFalse=>cases hc
 rename_i hb
 cases hc;obtain ⟨h0,h1,h2⟩:=hb;intro o a w ho F _;have hb:=Mt (P:=P) (isS:=false) (len:=s.size) (cap:=s.size) F hlo hhi h0 h1 h2 w;simp [execOp,ho,F.eval hx,Instr.sliceAt,Instr.slice,run_underlying hT,hb]
def sAt? (s:ByteArray) (i:Int):Option Int:=(if 0≤i then s[i.toNat]? else Option.none).map fun b=>(b.toNat:Int)
theorem ev_sAt {s:ByteArray} {T:TypeId} {x y:Operand} {k:IntKind} {i c:Int} (hc:sAt? s i=some c) (hT:P.underlying T=some .string) (hx:Bn e x=some (.string s)) (hy:Bn e y=some (.int k i)):Ev P n e C (.index T x y) (.int .u8 c):=by
 intro o a w ho F _;unfold sAt? at hc;cases hb:(if 0≤i then s[i.toNat]? else Option.none) with
 | none=>rw [hb] at hc;cases hc
 | some b =>
  rw [hb] at hc;cases hc;simp [execOp,ho,F.eval hx,F.eval hy,Instr.index,asIntOf,run_underlying hT,hb]
theorem Ow {id:Nat} {l:List Oper} {Q:Exit→Act→World→Prop} {a:Act} {w:World} {g:Gh} {cks:List Hl} {fr:Hl} (hm:P.follows .mixedOrders=true) (hB:Region.lexB .any l.toArray=true) (S:St g cks fr w)
  (h:wpQuiet P l.toArray (St g cks fr) (fun a'=>∀ w',St g cks fr w'→Q .normal a' w') l a):(Code.region id l.toArray true).wpIn (RW Option.none) 0 P Q a w :=
 wpIn_wide.2 (wp_region_quiet (C:=St g cks fr) hm hB (S.keep rfl rfl rfl rfl) (by simpa using h))
theorem Mh {ops:Array Oper} {rest:List Oper} {o:Oper} {Q:Act→Prop} {a:Act} {v:Value} {d:Nat}
  (hg:Region.wanted o (yielded ops a.tmps)=true) (hev:Ev P n e C o.op v) (F:Fr n a e) (hd:o.dst=some d) (hn:Nat.blt d n.sz=true)
  (k:∀ a',Fr n a' ((d,v)::e)→wpQuiet P ops C Q rest a'):wpQuiet P ops C Q (o::rest) a:=by
 unfold wpQuiet;rw [Ad hg];refine ⟨v,fun w hC=>?_,by rw [hd];exact k _ (F.put hn)⟩
 unfold Oper.quietAt;rw [hev o a w rfl F hC];exact ⟨rfl,rfl⟩
theorem Hc {ops:Array Oper} {rest:List Oper} {o:Oper} {Q:Act→Prop} {a:Act} {d j t:Nat} {want b:Bool}
  (hg:o.guard=some (j,want)) (hj:(ops[j]?).bind (·.dst)=some t) (ht:Nat.blt t n.sz=true) (hb:Kf e t=some (.bool b)) (hne:(b == want)=false)
  (F:Fr n a e) (hd:o.dst=some d) (hn:Nat.blt d n.sz=true)
  (k:∀ a',Fr n a' ((d,undef)::e)→wpQuiet P ops C Q rest a'):wpQuiet P ops C Q (o::rest) a:=by
 unfold wpQuiet;rw [Ac (by rw [wanted_of F hg hj ht hb,hne];simp)]
 rw [hd];exact k _ (F.put hn)
theorem wq_skipu {ops:Array Oper} {rest:List Oper} {o:Oper} {Q:Act→Prop} {a:Act} {d j t:Nat} {want:Bool}
  (hg:o.guard=some (j,want)) (hj:(ops[j]?).bind (·.dst)=some t) (ht:Nat.blt t n.sz=true) (hb:Kf e t=some undef)
  (F:Fr n a e) (hd:o.dst=some d) (hn:Nat.blt d n.sz=true)
  (k:∀ a',Fr n a' ((d,undef)::e)→wpQuiet P ops C Q rest a'):wpQuiet P ops C Q (o::rest) a:=by
 unfold wpQuiet;rw [Ac (by rw [wanted_undef F hg hj ht hb];simp)]
 rw [hd];exact k _ (F.put hn)
theorem Wt {ops:Array Oper} {rest:List Oper} {o:Oper} {Q:Act→Prop} {a:Act} {f:Operand} {fn:FuncId} {cap:List Value} {xs:List Operand} {vs:List Value} {A:Array TypeId} {d:Nat} {v:Value}
  (hg:Region.wanted o (yielded ops a.tmps)=true) (ho:o.op=.call { callee:=.value f,args:=xs.toArray,argTypes:=A }) (F:Fr n a e) (hf:Bn e f=some (.func (.func fn) #[] cap.toArray)) (hxs:xs.map (Bn e)=vs.map some)
  (hent:∀ args w,(callFunc fn args).run P w=.ok (.enter fn args) w) (hc:∀ w,C w→Calls P fn (vs++cap).toArray w (fun en w'=>en=.returned v∧C w')) (hd:o.dst=some d) (hn:Nat.blt d n.sz=true)
  (k:∀ a',Fr n a' ((d,v)::e)→wpQuiet P ops C Q rest a'):wpQuiet P ops C Q (o::rest) a:=by
 have hm:xs.map a.eval=vs:=by
  clear ho hc
  induction xs generalizing vs with
  | nil=>cases vs with
   | nil=>rfl
   | cons u r=>simp at hxs
  | cons p r ih=>cases vs with
   | nil=>simp at hxs
   | cons u s =>
    simp only [Dg,List.cons.injEq] at hxs ⊢;exact ⟨F.eval hxs.1,ih hxs.2⟩
 unfold wpQuiet;rw [Ad hg];refine ⟨v,fun w hC=>?_,by rw [hd];exact k _ (F.put hn)⟩
 unfold Oper.quietAt
 have hrun:(execOp a.eval o).run P w=.ok (.enter fn (vs++cap).toArray) w:=by
  simp [execOp,ho,resolve,F.eval hf,Deferred.ofValue,hm,invoke,hent]
 rw [hrun];exact ⟨rfl,hc w hC⟩
theorem L8 {ops:Array Oper} {Q:Act→Prop} {a:Act} (h:Q a):wpQuiet P ops C Q [] a:=h
theorem St0.sub {g:Gh} {o o':Hl} {w:World} (h:St0 g o w) (s:o'.Sublist o):St0 g o' w where
 snap:=h.snap
 own:=fun p hp=>h.own p (s.subset hp)
 nd:=h.nd.sublist (s.map _)
 os:=h.os
 out:=h.out
 tape:=h.tape
 dr:=h.dr
theorem St.frontC {g:Gh} {cs:List Hl} {fr:Hl} {w:World} (h:St g cs fr w) (k:Nat) {c:Hl} (hk:cs[k]? = some c):St g (c::cs.set k []) fr w:=h.front k hk
theorem fl_sub (xs ys:List Hl) (fr:Hl):(fl xs fr).Sublist (fl (xs++ys) fr):=by
 rw [fl_append]
 induction xs with
 | nil =>
  simp only [fl]
  induction ys with
  | nil=>exact List.Sublist.refl _
  | cons y ys ih=>exact ih.trans (List.sublist_append_right _ _)
 | cons x xs ih=>simp only [fl];exact List.Sublist.append_left ih _
theorem St.tail {g:Gh} {fr:Hl} {w:World} (xs ys:List Hl) (h:St g (xs++ys) fr w):St g xs fr w:=h.sub (fl_sub xs ys fr)
theorem Mf {x y:Code} {Q:Exit→Act→World→Prop} {a:Act} {w:World} (J:Act→World→Prop) (h1:x.wpIn (RW ρ) 0 P (Exit.then J Q) a w) (h2:∀ a w,J a w→y.wpIn (RW ρ) 0 P Q a w):(Code.seq x y).wpIn (RW ρ) 0 P Q a w:=by
 refine wpIn_seq (Go.wpIn_mono h1 ?_);intro en a' w' hq;cases en <;> first | exact h2 _ _ hq | exact hq
theorem uponIn_mono {o:Oper} {a:Act} {next next':Act→World→Prop} {Q Q':Exit→Act→World→Prop} {r:Result Next} (hn:∀ a w,next a w→next' a w) (hq:∀ en a w,en≠Exit.normal→Q en a w→Q' en a w)
  (h:o.uponIn (RW ρ) 0 P a next Q r):o.uponIn (RW ρ) 0 P a next' Q' r:=by
 unfold Oper.uponIn at *;split <;> simp only at h
 ·exact hn _ _ h
 ·exact hn _ _ h
 ·exact hn _ _ h
 ·refine ⟨h.1,h.2.mono ?_⟩;intro en w' hh;cases en with
  | returned v=>exact hn _ _ hh
  | panicked ch=>exact hq _ _ _ (by simp) hh
  | outgrown=>obtain ⟨a0,w0,h0⟩:=hh;exact ⟨a0,w0,hq _ _ _ (by simp) h0⟩
 ·refine ⟨h.1,h.2.mono ?_⟩;intro v w' hh;exact hn _ _ hh
 ·refine ⟨h.1,h.2.mono ?_⟩;intro en w' hh;cases en with
  | returned v=>exact hn _ _ hh
  | panicked ch=>exact hq _ _ _ (by simp) hh
  | outgrown=>obtain ⟨a0,w0,h0⟩:=hh;exact ⟨a0,w0,hq _ _ _ (by simp) h0⟩
 ·exact hq _ _ _ (by simp) h
theorem wpList_app {ops:Array Oper} {Q:Exit→Act→World→Prop} (J:Act→World→Prop):∀ (xs:List Oper) {ys:List Oper} {a:Act} {w:World},wpListIn (RW ρ) 0 P ops (Exit.then J Q) xs a w→(∀ a w,J a w→wpListIn (RW ρ) 0 P ops Q ys a w)→wpListIn (RW ρ) 0 P ops Q (xs++ys) a w
 | [],ys,a,w,h,k=>k a w h
 | o::xs,ys,a,w,h,k=>by
  simp only [List.cons_append,wpListIn] at h ⊢;split
  ·rename_i hw
   rw [Ad hw] at h;refine ⟨h.1,uponIn_mono (fun a' w' hh=>wpList_app J xs hh k) ?_ h.2⟩;intro en a' w' hne hh;cases en <;> first | exact absurd rfl hne | exact hh
  ·rename_i hw
   rw [Ac hw] at h;exact ⟨h.1,wpList_app J xs h.2 k⟩
theorem Wb {ops:Array Oper} {Q:Exit→Act→World→Prop} {l:List Oper} {a:Act} {w:World} (k:Nat) (J:Act→World→Prop) (h1:wpListIn (RW ρ) 0 P ops (Exit.then J Q) (l.take k) a w) (h2:∀ a w,J a w→wpListIn (RW ρ) 0 P ops Q (l.drop k) a w):wpListIn (RW ρ) 0 P ops Q l a w:=by
 have:=wpList_app J (l.take k) h1 h2
 rwa [Hj] at this
theorem wpQuiet_app {ops:Array Oper} {C:World→Prop} {Q:Act→Prop} (J:Act→Prop):∀ (xs:List Oper) {ys:List Oper} {a:Act},wpQuiet P ops C J xs a→(∀ a,J a→wpQuiet P ops C Q ys a)→wpQuiet P ops C Q (xs++ys) a
 | [],ys,a,h,k=>k a h
 | o::xs,ys,a,h,k=>by
  simp only [List.cons_append,wpQuiet] at h ⊢;split
  ·rename_i hw
   rw [Ad hw] at h;obtain ⟨v,h1,h2⟩:=h;exact ⟨v,h1,wpQuiet_app J xs h2 k⟩
  ·rename_i hw
   rw [Ac hw] at h;exact wpQuiet_app J xs h k
theorem wq_cut {ops:Array Oper} {C:World→Prop} {Q:Act→Prop} {l:List Oper} {a:Act} (k:Nat) (J:Act→Prop) (h1:wpQuiet P ops C J (l.take k) a) (h2:∀ a,J a→wpQuiet P ops C Q (l.drop k) a):wpQuiet P ops C Q l a:=by
 have:=wpQuiet_app J (l.take k) h1 h2
 rwa [Hj] at this
theorem Cl {c:Operand} {x y:Code} {Q:Exit→Act→World→Prop} {a:Act} {w:World} {b:Bool} (F:Fr n a e) (h:Bn e c=some (.bool b)) (hb:b=true) (k:x.wpIn (RW ρ) 0 P Q a w):(Code.cond c x y).wpIn (RW ρ) 0 P Q a w :=
 wpIn_cond_true (by rw [F.eval h,hb]) k
theorem Ck {c:Operand} {x y:Code} {Q:Exit→Act→World→Prop} {a:Act} {w:World} {b:Bool} (F:Fr n a e) (h:Bn e c=some (.bool b)) (hb:b=false) (k:y.wpIn (RW ρ) 0 P Q a w):(Code.cond c x y).wpIn (RW ρ) 0 P Q a w :=
 wpIn_cond_false (by rw [F.eval h,hb]) k
theorem Dd {α:Type} {c:Bool} {x y:Option α} {r:α} (h:(if c=true then x else y)=some r):(c=true∧x=some r)∨(c=false∧y=some r):=by
 cases c
 ·exact .inr ⟨rfl,by simpa using h⟩
 ·exact .inl ⟨rfl,by simpa using h⟩
theorem Ah {α β:Type} {x:Option α} {f:α→Option β} {r:β} (h:x.bind f=some r):∃ y,x=some y∧f y=some r:=Option.bind_eq_some_iff.1 h
end Go.Dc
namespace Go.Dc
open Go
variable {P : Program} {ρ : Option Nat} {n : Fw} {e : List (Nat × Value)} {C : World → Prop}
def LeafEq (P:Program) (t:TypeId) (x y:Value) (b:Bool):Prop:=(∃ d,P.underlying t=some d∧W9 d=false)∧∀ (d:Nat) (w:World),(Op.equalIn (d+1) t x y).run P w=.ok b w
theorem Xc {t:TypeId} {k:IntKind} {a b:Int} (h:P.underlying t=some (.int k)):LeafEq P t (.int k a) (.int k b) (decide (a=b)) :=
 ⟨⟨_,h,rfl⟩,fun d w=>by rw [run_equalIn_int w d t k k a b h];rfl⟩
theorem leaf_bool {t:TypeId} {a b:Bool} (h:P.underlying t=some .bool):LeafEq P t (.bool a) (.bool b) (decide (a=b)) :=
 ⟨⟨_,h,rfl⟩,fun d w=>by rw [run_equalIn_bool' w d t a b h];cases a <;> cases b <;> rfl⟩
theorem leaf_str {t:TypeId} {a b:ByteArray} (h:P.underlying t=some .string):LeafEq P t (.string a) (.string b) (decide (a=b)) :=
 ⟨⟨_,h,rfl⟩,fun d w=>by
  have:(a.toList == b.toList)=decide (a=b):=by rw [Kr];simp [str_ext]
  rw [run_equalIn_string w d t a b h,this]⟩
def Uv (P:Program) (xs ys:List Value):List (String×TypeId×Nat)→List Bool→Prop
 | [],bs=>bs=[]
 | f :: fs, bs => ∃ b bs', bs = b :: bs' ∧ f.1 ≠ "_" ∧ (∃ x y, xs[f.2.2]? = some x ∧ ys[f.2.2]? = some y ∧ LeafEq P f.2.1 x y b) ∧ Uv P xs ys fs bs'
def allB:List Bool→Bool
 | []=>true
 | [b]=>b
 | b::bs=>b && allB bs
theorem allB_cons (b:Bool) (bs:List Bool):allB (b::bs)=(b && allB bs):=by cases bs <;> simp [allB]
theorem Aaw {xs ys:List Value} (d:Nat) (w:World):∀ (fs:List Field) {ds:List (String×TypeId×Nat)} {bs:List Bool},fs.map (fun f=>(f.name,f.type,f.offset))=ds→Uv P xs ys ds bs →
  (Op.eqFields (d+1) xs.toArray ys.toArray fs).run P w=.ok (allB bs) w
 | [],ds,bs,h,hl=>by
  subst h;simp only [List.map_nil,Uv] at hl;subst hl;simp [Op.eqFields,allB]
 | f::fs,ds,bs,h,hl=>by
  subst h;simp only [Dg,Uv] at hl;obtain ⟨b,bs',rfl,hn,⟨x,y,hx,hy,⟨dd,hu,hag⟩,he⟩,hr⟩:=hl;have ih:=Aaw d w fs rfl hr;have px:(part f.type xs.toArray f.offset).run P w=.ok x w:=by simp [part,Q0 hu,hag,hx]
  have py:(part f.type ys.toArray f.offset).run P w=.ok y w:=by simp [part,Q0 hu,hag,hy]
  simp only [Op.eqFields,Ad hn,Sem.run_bind,px,py,Result.andThen_ok,he d w,allB_cons];cases b
  ·simp
  ·simp [ih]
theorem run_eqS {T:TypeId} {xs ys:List Value} {ds:List (String×TypeId×Nat)} {bs:List Bool} (hT:P.underlying T=some (.struct (P.fieldsOf T))) (hp:P.stoodInHeld T=false)
  (hf:(P.fieldsOf T).toList.map (fun f=>(f.name,f.type,f.offset))=ds) (h:Uv P xs ys ds bs) (w:World):(Op.equal T (.agg xs.toArray) (.agg ys.toArray)).run P w=.ok (allB bs) w:=by
 simp only [Op.equal,Op.maxDepth];rw [run_equalIn_struct w 9999 T _ _ hT hp];exact Aaw 9998 w _ hf h
theorem ev_eqS {T U:TypeId} {x y:Operand} {xs ys:List Value} {ds:List (String×TypeId×Nat)} {bs:List Bool} (hT:P.underlying T=some (.struct (P.fieldsOf T))) (hp:P.stoodInHeld T=false) (hgd:P.eqGuardType P.depth T=false)
  (hf:(P.fieldsOf T).toList.map (fun f=>(f.name,f.type,f.offset))=ds) (hx:Bn e x=some (.agg xs.toArray)) (hy:Bn e y=some (.agg ys.toArray)) (h:Uv P xs ys ds bs):Ev P n e C (.binOp .eql T x y U) (.bool (allB bs)):=by
 intro o a w ho F _;simp [execOp,ho,F.eval hx,F.eval hy,eqGuard,hgd,binOp,run_eqS hT hp hf h]
theorem ev_neS {T U:TypeId} {x y:Operand} {xs ys:List Value} {ds:List (String×TypeId×Nat)} {bs:List Bool} (hT:P.underlying T=some (.struct (P.fieldsOf T))) (hp:P.stoodInHeld T=false) (hgd:P.eqGuardType P.depth T=false)
  (hf:(P.fieldsOf T).toList.map (fun f=>(f.name,f.type,f.offset))=ds) (hx:Bn e x=some (.agg xs.toArray)) (hy:Bn e y=some (.agg ys.toArray)) (h:Uv P xs ys ds bs):Ev P n e C (.binOp .neq T x y U) (.bool (!allB bs)):=by
 intro o a w ho F _;simp [execOp,ho,F.eval hx,F.eval hy,eqGuard,hgd,binOp,run_eqS hT hp hf h]
theorem ev_eqB {T U:TypeId} {x y:Operand} {p q:Bool} (hT:P.underlying T=some .bool) (hx:Bn e x=some (.bool p)) (hy:Bn e y=some (.bool q)):Ev P n e C (.binOp .eql T x y U) (.bool (decide (p=q))):=by
 intro o a w ho F _;have:=(leaf_bool (P:=P) (t:=T) (a:=p) (b:=q) hT).2 9999 w;simp [execOp,ho,F.eval hx,F.eval hy,eqGuard,binOp,Op.equal,Op.maxDepth,this]
theorem ev_neB {T U:TypeId} {x y:Operand} {p q:Bool} (hT:P.underlying T=some .bool) (hx:Bn e x=some (.bool p)) (hy:Bn e y=some (.bool q)):Ev P n e C (.binOp .neq T x y U) (.bool (!decide (p=q))):=by
 intro o a w ho F _;have:=(leaf_bool (P:=P) (t:=T) (a:=p) (b:=q) hT).2 9999 w;simp [execOp,ho,F.eval hx,F.eval hy,eqGuard,binOp,Op.equal,Op.maxDepth,this]
theorem Lw {α:Type} [Rep α] {g:Gh} {l:List α} {v:Value} {T E:TypeId} {x:Operand} (h:RepSl g l v) (hx:Bn e x=some v) (hT:P.underlying T=some (.slice E)) :
  Ev P n e C (.call { callee:=.builtin .len,args:=#[x],argTypes:=#[T] }) (.int .i64 l.length):=by
 obtain ⟨a,cap,rfl,_⟩:=h.len;exact Zj hx hT
theorem Lx {α:Type} [Rep α] {g:Gh} {l:List α} {v:Value} {c:Hl} {T E:TypeId} {x:Operand} (h:OwnS g l v c) (hx:Bn e x=some v) (hT:P.underlying T=some (.slice E)) :
  Ev P n e C (.call { callee:=.builtin .len,args:=#[x],argTypes:=#[T] }) (.int .i64 l.length):=by
 obtain ⟨a,cap,rfl,_⟩:=h.len;exact Zj hx hT
theorem Mr {g g':Gh} {p:Value} {cs:List Value} {cks:List Hl} {fr:Hl} (h:PtrC g p cs) (l:Le g g'):∀ w,St g' cks fr w→PtrW w p cs:=fun _ s=>(h.mono l).at s
theorem Ur {g:Gh} {cs:List Hl} {fr:Hl} {b:Nat} {l cells:List Value} {t:TypeId} {fz:Nat×Nat} (k:Nat) (hk:cs[k]? = some [(b,.cells l.toArray t fz)]) (off:Nat) (hc:(l.drop off).take cells.length=cells) (hm:off+cells.length≤l.length) :
  ∀ w,St g cs fr w→PtrW w (.pointer (some ⟨b,off,Option.none⟩)) cells:=by
 intro w h;have:=St.box k hk off cells.length hm w h
 rwa [hc] at this
theorem E6 {T:TypeId} {fs:Array Field} {x:Operand} {p q:Value} {i k z:Nat} {ft:TypeId} (hT:P.underlying T=some (.struct fs)) (hf:(fs[i]?).map (fun f=>(f.offset,f.type))=some (k,ft))
  (hz:(P.info? ft).map (·.size)=some (z+1)) (hx:Bn e x=some p) (hp:∃ a,p=.pointer (some a)) (hq:N8 p k=q):Ev P n e C (.fieldAddr T x i) q:=by
 subst hq;exact ev_fieldAddr hT hf hz hx hp
end Go.Dc
namespace Go.Dc
open Go
variable {P : Program} {ρ : Option Nat} {n : Fw} {e : List (Nat × Value)} {C : World → Prop}
theorem D6 {b:Bool} (h:b=false):(b == true)=false:=by rw [h];rfl
theorem Lq {b:Bool} (h:b=true):(b == false)=false:=by rw [h];rfl
theorem Kn {c x y:Operand} {b:Bool} {v:Value} (hc:Bn e c=some (.bool b)) (hb:b=true) (h:Bn e x=some v):Ev P n e C (.pick c x y) v :=
 ev_pick hc (by subst hb;exact h) rfl
theorem Hy {c x y:Operand} {b:Bool} {v:Value} (hc:Bn e c=some (.bool b)) (hb:b=false) (h:Bn e y=some v):Ev P n e C (.pick c x y) v :=
 ev_pick hc (by subst hb;exact h) rfl
def Eq (v:Value) (i:Int) (m:Nat):Value :=
 match v with
 | .slice (some a) _ _=>.pointer (some (a.add (i.toNat * m)))
 | _=>undef
theorem Uu {p:Value}:N8 p 0=p:=by
 cases p <;> try rfl
 rename_i a
 cases a <;> rfl
theorem addP_mk (b o k:Nat):N8 (.pointer (some ⟨b,o,Option.none⟩)) k=.pointer (some ⟨b,o+k,Option.none⟩):=by simp [N8,Qd]
theorem Ul {α:Type} [Rep α] {g:Gh} {l:List α} {v:Value} {i:Int} {x:α} (hr:RepSl g l v) (hi:at? l i=some x):∃ cs,Rep.rep g x cs∧PtrC g (Eq v i (Rep.n α)) cs:=by
 obtain ⟨h0,hlt,hx⟩:=Mk hi;rcases hr with ⟨rfl,_⟩ | ⟨b,off,cap,c,t,fz,rfl,h2,h3,h4,h5⟩
 ·simp at hlt
 ·have hrep:=h5 i.toNat hlt;rw [hx] at hrep
  have hle:off+i.toNat * Rep.n α+Rep.n α≤c.size:=by
   have:(i.toNat+1) * Rep.n α≤l.length * Rep.n α:=Aq _ hlt;rw [B8,Nat.one_mul] at this;omega
  have hlen:=Rep.len hrep;exact ⟨_,hrep,b,off+i.toNat * Rep.n α,c,t,fz,by simp [Eq,Qd],h3,by rw [hlen];exact hle,by rw [hlen]⟩
theorem Nm {α:Type} [Rep α] {C:World→Prop} {g:Gh} {l:List α} {v:Value} {i:Int} {z:α} {T E:TypeId} {x y:Operand} {k:IntKind} (hr:RepSl g l v) (hi:at? l i=some z) (hT:P.underlying T=some (.slice E)) (hz:(P.info? E).map (·.size)=some (Rep.n α))
  (hx:Bn e x=some v) (hy:Bn e y=some (.int k i)):Ev P n e C (.indexAddr T x y) (Eq v i (Rep.n α)):=by
 obtain ⟨h0,hlt,_⟩:=Mk hi;rcases hr with ⟨rfl,_⟩ | ⟨b,off,cap,c,t,fz,rfl,_⟩
 ·simp at hlt
 ·intro o a w ho F _;have h1:i < (l.length:Int):=by omega
  simp [execOp,ho,F.eval hx,F.eval hy,Aau hT hz h0 h1,Eq]
theorem Mn {α:Type} [Rep α] {C:World→Prop} {g:Gh} {l:List α} {v:Value} {c:Hl} {i:Int} {z:α} {T E:TypeId} {x y:Operand} {k:IntKind} (hr:OwnS g l v c) (hi:at? l i=some z) (hT:P.underlying T=some (.slice E)) (hz:(P.info? E).map (·.size)=some (Rep.n α))
  (hx:Bn e x=some v) (hy:Bn e y=some (.int k i)):Ev P n e C (.indexAddr T x y) (Eq v i (Rep.n α)):=by
 obtain ⟨h0,hlt,_⟩:=Mk hi;rcases hr with ⟨rfl,rfl,_⟩ | ⟨b,cap,arr,t,rfl,_⟩
 ·simp at hlt
 ·intro o a w ho F _;have h1:i < (l.length:Int):=by omega
  simp [execOp,ho,F.eval hx,F.eval hy,Aau hT hz h0 h1,Eq]
theorem Us {α:Type} [Rep α] {g:Gh} {l:List α} {v:Value} {c:Hl} {i:Int} {x:α} (hr:OwnS g l v c) (hi:at? l i=some x):∃ a,Eq v i (Rep.n α)=.pointer (some a):=by
 obtain ⟨h0,hlt,_⟩:=Mk hi;rcases hr with ⟨rfl,rfl,_⟩ | ⟨b,cap,arr,t,rfl,_⟩
 ·simp at hlt
 ·exact ⟨_,rfl⟩
theorem Vj {α:Type} [Rep α] {g:Gh} {l:List α} {v:Value} {c:Hl} {i:Int} {x:α} (hr:OwnS g l v c) (hi:at? l i=some x):∃ cs,Rep.rep g x cs∧∀ (cks:List Hl) (fr:Hl) (k:Nat),cks[k]? = some c→∀ w,St g cks fr w→PtrW w (Eq v i (Rep.n α)) cs:=by
 have hr':=hr;obtain ⟨b,arr,t,cs,hc,hrep,hcs,hle,hp,_⟩:=idx_own hr hi;obtain ⟨h0,hlt,_⟩:=Mk hi;rcases hr' with ⟨rfl,rfl,_⟩ | ⟨b',cap,arr',t',rfl,hc',_⟩
 ·simp at hlt
 ·refine ⟨cs,hrep,fun cks fr k hk w s=>?_⟩;have:=hp w cks fr k hk s;rw [hc] at hc';cases hc';simpa [Eq,Qd] using this
theorem fieldP {w:World} {p:Value} {cs cells:List Value} (off:Nat) (h:PtrW w p cs) (hc:(cs.drop off).take cells.length=cells) (hm:off+cells.length≤cs.length):PtrW w (N8 p off) cells:=by
 have:=h.field off cells.length hm
 rwa [hc] at this
theorem wl_storeE {α:Type} [Rep α] {ops:Array Oper} {rest:List Oper} {o:Oper} {Q:Exit→Act→World→Prop} {a:Act} {w:World} {g:Gh} {cks:List Hl} {fr:Hl} {T:TypeId} {x y:Operand} {k:Nat} {u pv:Value} {us:List Value} {l:List α} {v:Value} {c:Hl} {i:Int} {z z':α} (off:Nat)
  (hg:Region.wanted o (yielded ops a.tmps)=true) (ho:o.op=.store T x y) (F:Fr n a e) (S:St g cks fr w) (hr:OwnS g l v c) (hi:at? l i=some z) (hpv:N8 (Eq v i (Rep.n α)) off=pv)
  (hx:Bn e x=some pv) (hy:Bn e y=some u) (hul:u.cells.toList=us) (hz:(P.info? T).map (·.size)=some us.length) (h1:∀ q∈us,Tq q=true)
  (hk:cks[k]? = some c) (hl:off+us.length≤Rep.n α) (hrep:∀ cs,Rep.rep g z cs→Rep.rep g z' (cs.take off++us++cs.drop (off+us.length))) (hd:o.dst=Option.none)
  (K:∀ c' w',OwnS g (l.set i.toNat z') v c'→St g (cks.set k c') fr w'→wpListIn (RW ρ) 0 P ops Q rest a w'):wpListIn (RW ρ) 0 P ops Q (o::rest) a w:=by
 have hr':=hr;obtain ⟨b,arr,t,cs,hc,hrp,hcs,hle,hp,_,hset⟩:=idx_own hr hi;obtain ⟨h0,hlt,_⟩:=Mk hi;have hcl:=Rep.len hrp;subst hul
 have hbase:Eq v i (Rep.n α)=.pointer (some ⟨b,i.toNat * Rep.n α,Option.none⟩):=by
  rcases hr' with ⟨rfl,rfl,_⟩ | ⟨b',cap,arr',t',rfl,hc',_⟩
  ·simp at hlt
  ·rw [hc] at hc';cases hc';simp [Eq,Qd]
 rw [hbase,addP_mk] at hpv;subst hpv;subst hc;have hlen:(u.cells.toList).length=u.cells.size:=by simp
 refine wl_store (c':=spl arr (i.toNat * Rep.n α+off) u.cells.toList) hg ho F S hx hy (by simpa using hz) h1 hk (by rw [hlen] at hl;omega) rfl hd ?_
 intro w' S';refine K _ w' (hset z' _ (hrep cs hrp) _ (Xa (by omega)) ?_) S'
 have e1:arr.toList.take (i.toNat * Rep.n α+off)=arr.toList.take (i.toNat * Rep.n α)++cs.take off:=by
  rw [hcs,List.take_take,Nat.min_eq_left (by omega),U4]
 have e2:arr.toList.drop (i.toNat * Rep.n α+off+u.cells.toList.length)=cs.drop (off+u.cells.toList.length)++arr.toList.drop (i.toNat * Rep.n α+Rep.n α):=by
  rw [hcs,List.drop_take,Gu]
  have:arr.toList.drop (i.toNat * Rep.n α+Rep.n α)=(arr.toList.drop (i.toNat * Rep.n α+(off+u.cells.toList.length))).drop (Rep.n α - (off+u.cells.toList.length)):=by
   rw [Gu];congr 1;omega
  rw [this,Hj,Nat.add_assoc]
 simp only [spl];rw [e1,e2];simp only [Am]
theorem wl_storeW {α:Type} [Rep α] {ops:Array Oper} {rest:List Oper} {o:Oper} {Q:Exit→Act→World→Prop} {a:Act} {w:World} {g:Gh} {cks:List Hl} {fr:Hl} {T:TypeId} {x y:Operand} {k:Nat} {u:Value} {us:List Value} {l:List α} {v:Value} {c:Hl} {i:Int} {z z':α}
  (hg:Region.wanted o (yielded ops a.tmps)=true) (ho:o.op=.store T x y) (F:Fr n a e) (S:St g cks fr w) (hr:OwnS g l v c) (hi:at? l i=some z)
  (hx:Bn e x=some (Eq v i (Rep.n α))) (hy:Bn e y=some u) (hul:u.cells.toList=us) (hz:(P.info? T).map (·.size)=some us.length) (h1:∀ q∈us,Tq q=true)
  (hk:cks[k]? = some c) (hl:us.length=Rep.n α) (hrep:Rep.rep g z' us) (hd:o.dst=Option.none)
  (K:∀ c' w',OwnS g (l.set i.toNat z') v c'→St g (cks.set k c') fr w'→wpListIn (RW ρ) 0 P ops Q rest a w'):wpListIn (RW ρ) 0 P ops Q (o::rest) a w :=
 wl_storeE (z':=z') 0 hg ho F S hr hi Uu hx hy hul hz h1 hk (by omega) (fun cs h=>by
  have:=Rep.len h;rw [G6,A8,D8 (by omega),Bh];exact hrep) hd K
theorem wl_cutS {α:Type} [Rep α] {ops:Array Oper} {rest:List Oper} {o:Oper} {Q:Exit→Act→World→Prop} {a:Act} {w:World} {g:Gh} {l l':List α} {v:Value} {x:Operand} {lo hi:Option Operand} {T E:TypeId} {p q:Int} {d:Nat}
  (hg:Region.wanted o (yielded ops a.tmps)=true) (ho:o.op=.slice T x lo hi Option.none) (hr:RepSl g l v) (hc:cut? l p q=some l') (hT:P.underlying T=some (.slice E)) (hz:(P.info? E).map (·.size)=some (Rep.n α))
  (hx:Bn e x=some v) (hlo:bnd e lo 0 p) (hhi:bnd e hi l.length q) (F:Fr n a e) (hd:o.dst=some d) (hn:Nat.blt d n.sz=true)
  (K:∀ v',RepSl g l' v'→∀ a',Fr n a' ((d,v')::e)→wpListIn (RW ρ) 0 P ops Q rest a' w):wpListIn (RW ρ) 0 P ops Q (o::rest) a w:=by
 obtain ⟨v',h',hev⟩:=ev_cut (P:=P) (n:=n) (e:=e) (C:=fun _=>True) hr hc hT hz hx hlo hhi;exact wl_ev hg (by rw [ho];exact hev) F trivial hd hn (K v' h')
theorem wl_cutO {α:Type} [Rep α] {ops:Array Oper} {rest:List Oper} {o:Oper} {Q:Exit→Act→World→Prop} {a:Act} {w:World} {g:Gh} {l l':List α} {v:Value} {c:Hl} {x:Operand} {lo hi:Option Operand} {T E:TypeId} {q:Int} {d:Nat}
  (hg:Region.wanted o (yielded ops a.tmps)=true) (ho:o.op=.slice T x lo hi Option.none) (hr:OwnS g l v c) (hc:cut? l 0 q=some l') (hT:P.underlying T=some (.slice E)) (hz:(P.info? E).map (·.size)=some (Rep.n α))
  (hx:Bn e x=some v) (hlo:bnd e lo 0 0) (hhi:bnd e hi l.length q) (F:Fr n a e) (hd:o.dst=some d) (hn:Nat.blt d n.sz=true)
  (K:∀ v',OwnS g l' v' c→∀ a',Fr n a' ((d,v')::e)→wpListIn (RW ρ) 0 P ops Q rest a' w):wpListIn (RW ρ) 0 P ops Q (o::rest) a w:=by
 obtain ⟨v',h',hev⟩:=ev_cutOwn (P:=P) (n:=n) (e:=e) (C:=fun _=>True) hr hc hT hz hx hlo hhi;exact wl_ev hg (by rw [ho];exact hev) F trivial hd hn (K v' h')
theorem bnd0 (d:Int):bnd e Option.none d d:=rfl
theorem bndV {y:Operand} {k:IntKind} {d i:Int} (h:Bn e y=some (.int k i)):bnd e (some y) d i:=⟨k,h⟩
theorem Og {α:Type} [Rep α] {ops:Array Oper} {rest:List Oper} {o:Oper} {Q:Exit→Act→World→Prop} {a:Act} {w:World} {g:Gh} {cks:List Hl} {fr:Hl} {T E:TypeId} {parts:List (Nat×Operand)} {vs cs:List Value} {d b L:Nat} {z:Value} {l:List α}
  (hg:Region.wanted o (yielded ops a.tmps)=true) (ho:o.op=.buildSlice T L parts.toArray) (hL:vs.length=L) (hp:parts.map (fun p=>(p.1,Bn e p.2))=(Q7 0 vs).map (fun p=>(p.1,some p.2))) (hT:P.underlying T=some (.slice E)) (hE:ElemT P E (Rep.n α) b z)
  (hv:∀ v∈vs,v.cells.size=Rep.n α) (hl:Nat.ble (vs.length * Rep.n α) 16777216=true) (hcat:Cat g l cs) (hcs:Ku vs=cs) (hll:L=l.length) (F:Fr n a e) (S:St g cks fr w) (hd:o.dst=some d) (hn:Nat.blt d n.sz=true)
  (K:∀ v c a' w',OwnS g l v c→Fr n a' ((d,v)::e)→St g (c::cks) fr w'→wpListIn (RW ρ) 0 P ops Q rest a' w'):wpListIn (RW ρ) 0 P ops Q (o::rest) a w:=by
 refine wl_buildSlice hg ho hL hp hT hE hv (M9 hl) hcs F S hd hn ?_;intro b' a' w' F' S';exact K _ _ a' w' (OwnS.lit hcat (by rw [hL,hll])) F' S'
theorem Oj {m:Nat}:∀ v∈([]:List Value),v.cells.size=m:=fun _ h=>by cases h
theorem Mv {m:Nat} {v:Value} {r:List Value} (h:v.cells.size=m) (hr:∀ u∈r,u.cells.size=m):∀ u∈v::r,u.cells.size=m:=by
 intro u hu;rcases Bf.1 hu with rfl | h';exact h;exact hr u h'
theorem E0:∀ v∈([]:List Value),Tq v=true:=fun _ h=>by cases h
theorem Ba {v:Value} {r:List Value} (h:Tq v=true) (hr:∀ u∈r,Tq u=true):∀ u∈v::r,Tq u=true:=by
 intro u hu;rcases Bf.1 hu with rfl | h';exact h;exact hr u h'
theorem OwnS.one {α:Type} [Rep α] {g:Gh} {l:List α} {v:Value} {c:Hl} (h:OwnS g l v c):Tq v=true:=by
 rcases h with ⟨rfl,_⟩ | ⟨b,cap,arr,t,rfl,_⟩ <;> rfl
theorem RepSl.csz {α:Type} [Rep α] {g:Gh} {l:List α} {v:Value} (h:RepSl g l v):v.cells.size=1:=by
 rcases h with ⟨_,_,_,rfl⟩ | ⟨b,off,cap,c,t,fz,rfl,_⟩ <;> rfl
theorem OwnS.csz {α:Type} [Rep α] {g:Gh} {l:List α} {v:Value} {c:Hl} (h:OwnS g l v c):v.cells.size=1:=by
 rcases h with ⟨rfl,_⟩ | ⟨b,cap,arr,t,rfl,_⟩ <;> rfl
theorem RepSl.cl {α:Type} [Rep α] {g:Gh} {l:List α} {v:Value} (h:RepSl g l v):v.cells.toList=[v]:=by
 rcases h with ⟨_,_,_,rfl⟩ | ⟨b,off,cap,c,t,fz,rfl,_⟩ <;> rfl
theorem OwnS.cl {α:Type} [Rep α] {g:Gh} {l:List α} {v:Value} {c:Hl} (h:OwnS g l v c):v.cells.toList=[v]:=by
 rcases h with ⟨rfl,_⟩ | ⟨b,cap,arr,t,rfl,_⟩ <;> rfl
theorem Nd:Ku []=[]:=rfl
theorem Ly {v:Value} {r a b:List Value} (h:v.cells.toList=a) (h':Ku r=b):Ku (v::r)=a++b:=by
 subst h;subst h';rfl
theorem resT {w:World} {t:Nat} {v:Value} (h:Kf e t=some v):ResV P e w (.tmp t) v:=h
theorem res1 {w:World} {t T:Nat} {d:TypeDesc} {p v:Value} (h:Kf e t=some p) (hT:P.underlying T=some d) (hd:W9 d=false) (hp:PtrW w p [v]):ResV P e w (.cell t T) v:=⟨p,h,.inl ⟨d,hT,hd,hp⟩⟩
theorem resA {w:World} {t T:Nat} {d:TypeDesc} {p:Value} {cs:List Value} (h:Kf e t=some p) (hT:P.underlying T=some d) (hd:W9 d=true) (hp:PtrW w p cs) (hs:(P.info? T).map (·.size)=some cs.length):ResV P e w (.cell t T) (.agg cs.toArray) :=
 ⟨p,h,.inr ⟨d,cs,hT,hd,hs,hp,rfl⟩⟩
theorem Mz {w:World}:Qx P e w [] []:=rfl
theorem H6 {w:World} {r:ResultVar} {rs:List ResultVar} {v:Value} {vs:List Value} (h:ResV P e w r v) (hs:Qx P e w rs vs):Qx P e w (r::rs) (v::vs):=⟨v,vs,rfl,h,hs⟩
section ends
variable {K : Act → World → Prop} {Q : Exit → Act → World → Prop} {a : Act} {w : World} {i j : Nat}
theorem Dm (h:Q .normal a w):Code.skip.wpIn (RW ρ) 0 P Q a w:=wpIn_skip h
theorem G8 (h:Q .ret a w):Code.ret.wpIn (RW ρ) 0 P Q a w:=wpIn_ret h
theorem Mp {id:Nat} (h:Q (.exit id) a w):(Code.exit id).wpIn (RW ρ) 0 P Q a w:=wpIn_exit h
theorem Cy {x y:Code} (h:x.wpIn (RW ρ) 0 P (Exit.then (y.wpIn (RW ρ) 0 P Q) Q) a w):(Code.seq x y).wpIn (RW ρ) 0 P Q a w:=wpIn_seq h
theorem El {id:Nat} {c:Code} (h:c.wpIn (RW ρ) 0 P (Exit.inBlock id Q) a w):(Code.block id c).wpIn (RW ρ) 0 P Q a w:=wpIn_block h
theorem B1 {id:Nat} {l:List Oper} (h:wpListIn (RW ρ) 0 P l.toArray Q l a w):(Code.region id l.toArray false).wpIn (RW ρ) 0 P Q a w:=wpIn_region_lit h
theorem Av {ops:Array Oper} (h:Q .normal a w):wpListIn (RW ρ) 0 P ops Q [] a w:=h
theorem Aw (h:K a w):Exit.then K Q .normal a w:=h
theorem Kg (h:Q (.exit i) a w):Exit.then K Q (.exit i) a w:=h
theorem Ht (h:Q .ret a w):Exit.then K Q .ret a w:=h
theorem L7 (h:Q .normal a w):Exit.inBlock i Q .normal a w:=h
theorem Tu (h:Q .normal a w):Exit.inBlock i Q (.exit i) a w:=by simp only [Exit.inBlock,E4];exact h
theorem inb_e (hne:Nat.beq j i=false) (h:Q (.exit j) a w):Exit.inBlock i Q (.exit j) a w:=by
 have:j≠i:=fun e=>by subst e;simp at hne
 simp only [Exit.inBlock,Ac this];exact h
theorem Nu (h:Q .ret a w):Exit.inBlock i Q .ret a w:=h
end ends
theorem Tn {ops:Array Oper} {rest:List Oper} {o:Oper} {Q:Exit→Act→World→Prop} {a:Act} {w:World} {g:Gh} {cks:List Hl} {fr:Hl} {T t:TypeId} {x y:Operand} {b off k:Nat} {v:Value} {vs:List Value} {c c':Array Value}
  (hg:Region.wanted o (yielded ops a.tmps)=true) (ho:o.op=.store T x y) (F:Fr n a e) (S:St g cks fr w)
  (hx:Bn e x=some (.pointer (some ⟨b,off,Option.none⟩))) (hy:Bn e y=some v) (hcl:v.cells.toList=vs) (hz:(P.info? T).map (·.size)=some vs.length) (h1:∀ u∈vs,Tq u=true)
  (hk:cks[k]? = some [(b,.cells c t (0,0))]) (hl:off+vs.length≤c.size) (hc':spl c off vs=c') (hd:o.dst=Option.none)
  (K:∀ w',St g (cks.set k [(b,.cells c' t (0,0))]) fr w'→wpListIn (RW ρ) 0 P ops Q rest a w'):wpListIn (RW ρ) 0 P ops Q (o::rest) a w:=by
 subst hcl;exact wl_store hg ho F S hx hy (by simpa using hz) h1 hk (by simpa using hl) hc' hd K
theorem wl_boxC {ops:Array Oper} {rest:List Oper} {o:Oper} {Q:Exit→Act→World→Prop} {a:Act} {w:World} {g:Gh} {cks:List Hl} {fr:Hl} {T:TypeId} {x:Operand} {v:Value} {cs:List Value} {d:Nat}
  (hg:Region.wanted o (yielded ops a.tmps)=true) (ho:o.op=.box T x) (hx:Bn e x=some v) (hcl:v.cells.toList=cs) (F:Fr n a e) (S:St g cks fr w)
  (hd:o.dst=some d) (hn:Nat.blt d n.sz=true)
  (K:∀ b a' w',Fr n a' ((d,.pointer (some ⟨b,0,Option.none⟩))::e)→St g ([(b,.cells cs.toArray T (0,0))]::cks) fr w'→wpListIn (RW ρ) 0 P ops Q rest a' w'):wpListIn (RW ρ) 0 P ops Q (o::rest) a w :=
 wl_box hg ho hx (by rw [← hcl]) F S hd hn K
def T8 (v:Value):Prop:=∃ a m c,v=.slice a m c
theorem RepSl.isSl {α:Type} [Rep α] {g:Gh} {l:List α} {v:Value} (h:RepSl g l v):T8 v:=by
 obtain ⟨a,c,h,_⟩:=h.len;exact ⟨_,_,_,h⟩
theorem OwnS.isSl {α:Type} [Rep α] {g:Gh} {l:List α} {v:Value} {c:Hl} (h:OwnS g l v c):T8 v:=by
 obtain ⟨a,c,h,_⟩:=h.len;exact ⟨_,_,_,h⟩
theorem isSl_nil:T8 (.slice Option.none 0 0):=⟨_,_,_,rfl⟩
theorem wp_cut1 {x:Code} {Q:Exit→Act→World→Prop} {a:Act} {w:World} (J:Act→World→Prop) (h1:x.wpIn (RW ρ) 0 P (Exit.then J Q) a w) (h2:∀ a w,J a w→Q .normal a w):x.wpIn (RW ρ) 0 P Q a w:=by
 refine Go.wpIn_mono h1 ?_;intro en a' w' hq;cases en <;> first | exact h2 _ _ hq | exact hq
theorem St0.of_eq {g:Gh} {o o':Hl} {w:World} (h:St0 g o w) (e:o=o'):St0 g o' w:=e ▸ h
theorem post_r {fn:Func} {R:Ending→World→Prop} {a:Act} {w:World} {rs:List ResultVar} (vs:List Value) {m:Nat} (F:Fr ⟨m,[]⟩ a e) (hr:fn.results=rs.toArray) (h:Qx P e w rs vs) (hR:R (.returned (pack vs)) w):bodyPost P fn R .ret a w:=post_ret (n:=⟨m,[]⟩) vs F hr h hR
theorem post_n {fn:Func} {R:Ending→World→Prop} {a:Act} {w:World} {rs:List ResultVar} (vs:List Value) {m:Nat} (F:Fr ⟨m,[]⟩ a e) (hr:fn.results=rs.toArray) (h:Qx P e w rs vs) (hR:R (.returned (pack vs)) w):bodyPost P fn R .normal a w:=post_ret (n:=⟨m,[]⟩) vs F hr h hR
theorem ev_callx {f:Operand} {fn:FuncId} {xs:List Operand} {vs:List Value} {A:Array TypeId} {v:Value} (hf:Bn e f=some (.func (.func fn) #[] #[])) (hxs:xs.map (Bn e)=vs.map some)
  (hrun:∀ w,(callFunc fn vs.toArray).run P w=.ok (.value v) w):Ev P n e C (.call { callee:=.value f,args:=xs.toArray,argTypes:=A }) v:=by
 intro o a w ho F _
 have hm:xs.map a.eval=vs:=by
  clear ho hrun
  induction xs generalizing vs with
  | nil=>cases vs with
   | nil=>rfl
   | cons u r=>simp at hxs
  | cons p r ih=>cases vs with
   | nil=>simp at hxs
   | cons u s =>
    simp only [Dg,List.cons.injEq] at hxs ⊢;exact ⟨F.eval hxs.1,ih hxs.2⟩
 simp [execOp,ho,resolve,F.eval hf,Deferred.ofValue,hm,invoke,hrun]
def idxB (s:ByteArray) (c:Int):Int:=Lib.indexByte s.data.toList c.toNat.toUInt8
theorem run_idxB {fn : Func} {f : FuncId} (hf : P.funcs[f]? = some fn) (hname : (fn.name == "runtime.NumGoroutine") = false)
  (hb:fn.body.isNone=true) (hn:Extern.findNext fn=Option.none) (he:Extern.find fn=some Extern.BytealgIndexByte.indexByte) (s:ByteArray) (c:Int) (w:World) :
  (callFunc f #[.string s,.int .u8 c]).run P w=.ok (.value (.int .i64 (idxB s c))) w:=by
 rw [run_callFunc_extern hf hname hb hn he,Lib.run_indexByteString];rfl
theorem addP_ptr {p:Value} {k:Nat} (h:∃ a,p=.pointer (some a)):∃ a,N8 p k=.pointer (some a):=by
 obtain ⟨a,rfl⟩:=h;exact ⟨_,rfl⟩
end Go.Dc
namespace Go.Dc
open Go
variable {P : Program} {ρ : Option Nat} {n : Fw} {e : List (Nat × Value)}
def Nn (o:Oper):List Nat:=(o.after.toList.filter (Region.binds .any)).map (·.on)
def Wc:List (List Nat)→List Oper→List (List Nat)
 | acc,[]=>acc
 | acc,o::r=>Wc (acc++[Nn o++(Nn o).flatMap fun j=>acc.getD j []]) r
theorem cloF_get:∀ (r:List Oper) (acc:List (List Nat)) (i:Nat),i < acc.length→(Wc acc r).getD i []=acc.getD i []
 | [],acc,i,_=>rfl
 | o::r,acc,i,h=>by
  simp only [Wc];rw [cloF_get r _ i (by simp;omega)]
  simp [List.getD_eq_getElem?_getD,List.getElem?_append_left h]
theorem cloF_spec:∀ (r:List Oper) (acc:List (List Nat)) (i:Nat) (o:Oper),r[i]? = some o→(∀ j∈Nn o,j < acc.length+i) →
  ∀ j,j∈(Wc acc r).getD (acc.length+i) []→∃ q,q∈Nn o∧(j=q∨j∈(Wc acc r).getD q [])
 | [],_,i,o,h,_=>by simp at h
 | q::r,acc,i,o,h,he=>by
  intro j hj;cases i with
  | zero =>
   simp only [List.getElem?_cons_zero,Option.some.injEq] at h;subst h;simp only [Wc,Eg] at hj;rw [cloF_get r _ acc.length (by simp)] at hj
   simp only [List.getD_eq_getElem?_getD,List.getElem?_append_right (B7 _),Mb,List.getElem?_cons_zero,Option.getD_some,Az,List.mem_flatMap] at hj;rcases hj with hj | ⟨p,hp,hj⟩
   ·exact ⟨j,hj,.inl rfl⟩
   ·refine ⟨p,hp,.inr ?_⟩;have hpl:=he p hp;simp only [Wc];rw [cloF_get r _ p (by simp;omega),List.getD_eq_getElem?_getD,List.getElem?_append_left (by omega)]
    exact hj
  | succ i =>
   simp only [List.getElem?_cons_succ] at h;have:=cloF_spec r (acc++[Nn q++(Nn q).flatMap fun j=>acc.getD j []]) i o h (by intro j hj;have:=he j hj;simp;omega) j
   simp only [Aj,Ak] at this;rw [show acc.length+1+i=acc.length+(i+1) from by omega] at this
   exact this hj
theorem Aas {C:World→Prop} {f:FuncId} {xs:List Operand} {vs:List Value} (hxs:xs.map (Bn e)=vs.map some):Ev P n e C (.makeFunc (.func f) #[] xs.toArray) (.func (.func f) #[] vs.toArray):=by
 intro o a w ho F _
 have hm:xs.map a.eval=vs:=by
  clear ho
  induction xs generalizing vs with
  | nil=>cases vs with
   | nil=>rfl
   | cons u r=>simp at hxs
  | cons p r ih=>cases vs with
   | nil=>simp at hxs
   | cons u s =>
    simp only [Dg,List.cons.injEq] at hxs ⊢;exact ⟨F.eval hxs.1,ih hxs.2⟩
 simp [execOp,ho,Instr.makeFunc,hm]
end Go.Dc
