import Derived.Test.YtkcnbopeghkdlaaGreatDoorDcC
import Derived.Deep.AppendSrc
namespace Go.Dc
open Go
variable {P : Program} {ρ : Option Nat} {n : Fw} {e : List (Nat × Value)} {C : World → Prop}
theorem oneCell_of {v:Value} (h:U6 v=true):v.oneCell'=true:=by
 cases v <;> simp_all [U6,Value.oneCell']
def Cat {α:Type} [Rep α] (g:Gh) (l:List α) (cs:List Value):Prop :=
 cs.length=l.length * Rep.n α∧∀ i (h:i < l.length),Rep.rep g l[i] ((cs.drop (i * Rep.n α)).take (Rep.n α))
theorem Cat.one {α:Type} [Rep α] {g:Gh} {l:List α} {cs:List Value} (h:Cat g l cs):∀ u∈cs,U6 u=true:=by
 intro u hu;obtain ⟨j,hj,rfl⟩:=Cd hu
 have hn:0 < Rep.n α:=by
  rcases Nat.eq_zero_or_pos (Rep.n α) with h0 | h0
  ·have:=h.1;rw [h0,Nat.mul_zero] at this;omega
  ·exact h0
 have hq:j / Rep.n α < l.length:=by
  rw [Nat.div_lt_iff_lt_mul hn];rw [← h.1];exact hj
 have hr:=h.2 (j / Rep.n α) hq;refine Rep.one hr _ ?_;have hm:=Nat.mod_lt j hn;have hd:j / Rep.n α * Rep.n α+j % Rep.n α=j:=by rw [Nat.mul_comm];exact Nat.div_add_mod j (Rep.n α)
 refine List.mem_of_getElem? (i:=j % Rep.n α) ?_;rw [List.getElem?_take,Af hm,List.getElem?_drop,hd,Bb hj]
theorem Cat.mono {α:Type} [Rep α] {g g':Gh} {l:List α} {cs:List Value} (hl:Le g g') (h:Cat g l cs):Cat g' l cs:=⟨h.1,fun i hi=>Rep.mono hl (h.2 i hi)⟩
theorem Cat.append {α:Type} [Rep α] {g:Gh} {l m:List α} {cs ds:List Value} (h:Cat g l cs) (h':Cat g m ds):Cat g (l++m) (cs++ds):=by
 refine ⟨by rw [Au,Au,h.1,h'.1,B4],fun i hi=>?_⟩
 rcases Es i l.length with hlt | hge
 ·rw [Hh hlt]
  have:i * Rep.n α+Rep.n α≤cs.length:=by
   rw [h.1];have:(i+1) * Rep.n α≤l.length * Rep.n α:=A3 _ hlt
   rwa [B4,Nat.one_mul] at this
  rw [List.drop_append_of_le_length (by omega),Cy (by simp;omega)]
  exact h.2 i hlt
 ·rw [Hc hge];have hi':i - l.length < m.length:=by simp at hi;omega
  have hle:cs.length≤i * Rep.n α:=by rw [h.1];exact A3 _ hge
  rw [List.drop_append,D4 hle,Cw,h.1,← Nat.sub_mul];exact h'.2 _ hi'
theorem Cat.nil {α:Type} [Rep α] (g:Gh):Cat g ([]:List α) []:=⟨by simp,fun i h=>by simp at h⟩
theorem Cat.single {α:Type} [Rep α] {g:Gh} {x:α} {cs:List Value} (h:Rep.rep g x cs):Cat g [x] cs:=by
 have hl:=Rep.len h;refine ⟨by rw [hl];simp,fun i hi=>?_⟩
 simp at hi;subst hi;simp only [Nat.zero_mul,List.drop_zero,List.getElem_cons_zero];rw [C5 (by omega)]
 exact h
theorem Cat.cons {α:Type} [Rep α] {g:Gh} {x:α} {l:List α} {cs ds:List Value} (h:Rep.rep g x cs) (h':Cat g l ds):Cat g (x::l) (cs++ds) :=
 (Cat.single h).append h'
theorem RepSl.cat {α:Type} [Rep α] {g:Gh} {l:List α} {v:Value} (h:RepSl g l v):∃ cs,Cat g l cs∧((l=[]∧cs=[]∧∃ a cap,v=.slice a 0 cap)∨∃ b off cap,v=.slice (some ⟨b,off,Option.none⟩) l.length cap∧PtrC g (.pointer (some ⟨b,off,Option.none⟩)) cs):=by
 rcases h with ⟨rfl,hv⟩ | ⟨b,off,cap,c,t,fz,h1,h2,h3,h4,h5⟩
 ·exact ⟨[],Cat.nil g,.inl ⟨rfl,rfl,hv⟩⟩
 ·have hlen:((c.toList.drop off).take (l.length * Rep.n α)).length=l.length * Rep.n α:=by simp;omega
  refine ⟨(c.toList.drop off).take (l.length * Rep.n α),⟨hlen,fun i hi=>?_⟩,.inr ⟨b,off,cap,h1,b,off,c,t,fz,rfl,h3,by rw [hlen];exact h4,by rw [hlen]⟩⟩
  have:i * Rep.n α+Rep.n α≤l.length * Rep.n α:=by
   have:(i+1) * Rep.n α≤l.length * Rep.n α:=A3 _ hi
   rwa [B4,Nat.one_mul] at this
  rw [List.drop_take,List.take_take,H8,Nat.min_eq_left (by omega)]
  exact h5 i hi
theorem OwnS.cat {α:Type} [Rep α] {g:Gh} {l:List α} {v:Value} {c:Hl} (h:OwnS g l v c):∃ cs,Cat g l cs∧((v=.slice Option.none 0 0∧cs=[]∧c=[]) ∨
  ∃ b cap arr t,v=.slice (some ⟨b,0,Option.none⟩) l.length cap∧c=[(b,.cells arr t (0,0))]∧l.length≤cap∧arr.size=cap * Rep.n α∧arr.toList.take (l.length * Rep.n α)=cs):=by
 rcases h with ⟨rfl,rfl,rfl⟩ | ⟨b,cap,arr,t,h1,h2,h3,h4,h5⟩
 ·exact ⟨[],Cat.nil g,.inl ⟨rfl,rfl,rfl⟩⟩
 ·have hle:l.length * Rep.n α≤arr.size:=by rw [h4];exact A3 _ h3
  refine ⟨arr.toList.take (l.length * Rep.n α),⟨by simp;omega,fun i hi=>?_⟩,.inr ⟨b,cap,arr,t,h1,h2,h3,h4,rfl⟩⟩
  have:i * Rep.n α+Rep.n α≤l.length * Rep.n α:=by
   have:(i+1) * Rep.n α≤l.length * Rep.n α:=A3 _ hi
   rwa [B4,Nat.one_mul] at this
  rw [List.drop_take,List.take_take,Nat.min_eq_left (by omega)]
  exact h5 i hi
theorem OwnS.of_cat {α:Type} [Rep α] {g:Gh} {l:List α} {cs:List Value} {b cap:Nat} {arr:Array Value} {t:TypeId} (h:Cat g l cs) (hcap:l.length≤cap) (hs:arr.size=cap * Rep.n α) (ha:arr.toList.take cs.length=cs) :
  OwnS g l (.slice (some ⟨b,0,Option.none⟩) l.length cap) [(b,.cells arr t (0,0))]:=by
 refine .inr ⟨b,cap,arr,t,rfl,rfl,hcap,hs,fun i hi=>?_⟩;have:=h.2 i hi
 have hle:i * Rep.n α+Rep.n α≤cs.length:=by
  rw [h.1];have:(i+1) * Rep.n α≤l.length * Rep.n α:=A3 _ hi
  rwa [B4,Nat.one_mul] at this
 rw [← ha,List.drop_take,List.take_take,Nat.min_eq_left (by omega)] at this
 exact this
def Reads (w:World) (size:Nat) (v:Value) (m:Nat) (cs:List Value):Prop :=
 cs.length=m * size∧(∀ u∈cs,U6 u=true)∧((m=0∧∃ a cap,v=.slice a 0 cap)∨∃ a cap,v=.slice (some a) m cap∧PtrW w (.pointer (some a)) cs)
theorem RepSl.reads {α:Type} [Rep α] {g:Gh} {l:List α} {v:Value} (h:RepSl g l v):∃ cs,Cat g l cs∧∀ (o:Hl) (w:World),St0 g o w→Reads w (Rep.n α) v l.length cs:=by
 obtain ⟨cs,hc,h'⟩:=h.cat;refine ⟨cs,hc,fun o w s=>⟨hc.1,hc.one,?_⟩⟩;rcases h' with ⟨rfl,rfl,hv⟩ | ⟨b,off,cap,rfl,hp⟩
 ·exact .inl ⟨rfl,hv⟩
 ·exact .inr ⟨_,_,rfl,hp.at s⟩
theorem OwnS.reads {α:Type} [Rep α] {g:Gh} {l:List α} {v:Value} {c:Hl} (h:OwnS g l v c):∃ cs,Cat g l cs∧∀ (w:World) (cks:List Hl) (fr:Hl) (k:Nat),cks[k]? = some c→St g cks fr w→Reads w (Rep.n α) v l.length cs:=by
 obtain ⟨cs,hc,h'⟩:=h.cat;refine ⟨cs,hc,fun w cks fr k hk s=>⟨hc.1,hc.one,?_⟩⟩;rcases h' with ⟨rfl,rfl,rfl⟩ | ⟨b,cap,arr,t,rfl,rfl,h3,h4,h5⟩
 ·refine .inl ⟨?_,_,_,rfl⟩;rcases h with ⟨_,rfl,_⟩ | ⟨_,_,_,_,hh,_⟩
  ·rfl
  ·cases hh
 ·have hle:l.length * Rep.n α≤arr.size:=by rw [h4];exact A3 _ h3
  exact .inr ⟨_,_,rfl,b,0,arr,t,(0,0),rfl,s.heap k hk,by rw [hc.1];omega,by rw [hc.1,List.drop_zero];exact h5⟩
theorem Reads.src {w:World} {size:Nat} {tx e':TypeId} {v:Value} {m:Nat} {cs:List Value} (hk:P.underlying tx=some (.slice e')) (h:Reads w size v m cs):Src P size tx v m cs w:=by
 obtain ⟨h1,h2,h3⟩:=h;rcases h3 with ⟨rfl,a,cap,rfl⟩ | ⟨a,cap,rfl,hp⟩
 ·have:cs=[]:=by simpa using h1
  subst this;cases a with
  | none=>exact Src.ofNil w hk cap
  | some a=>exact Src.ofSlice w hk a 0 cap [] (by simp) (fun j u h=>by simp at h) (fun u h=>by cases h)
 ·obtain ⟨b,off,he,hc⟩:=Wp hp;cases he;refine Src.ofSlice w hk _ _ _ cs h1 (fun j u hj=>?_) (fun u hu=>oneCell_of (h2 u hu));rw [O9];exact hc j u hj
def app? {α:Type} (bytes:Nat) (l r:List α):Option (List α):=if (l.length+r.length) * bytes≤140737488355328 then some (l++r) else Option.none
theorem app?_some {α:Type} {bytes:Nat} {l r m:List α} (h:app? bytes l r=some m):(l.length+r.length) * bytes≤140737488355328∧m=l++r:=by
 unfold app? at h;split at h
 ·rename_i hh;cases h;exact ⟨hh,rfl⟩
 ·cases h
theorem growBy_le (need:Nat):∀ (r c:Nat),c < need→Builtin.growBy need r c≤need+(need+768) / 4
 | 0,c,h=>by simp [Builtin.growBy];omega
 | r+1,c,h=>by
  simp only [Builtin.growBy];split
  ·omega
  ·rcases Es (c+(c+768) / 4) need with h' | h'
   ·exact growBy_le need r _ h'
   ·cases r with
    | zero=>simp only [Builtin.growBy];omega
    | succ r=>simp only [Builtin.growBy];rw [Af h'];omega
theorem nextcap_le (need old:Nat) (h:old < need):Builtin.nextslicecap need old≤need+(need+768) / 4+512:=by
 unfold Builtin.nextslicecap;split
 ·omega
 ·split
  ·omega
  ·have:=growBy_le need 4 old h;omega
theorem fits {need old bytes:Nat} (h:old < need) (hb:need * bytes≤140737488355328) (hs:bytes≤1000000):Builtin.nextslicecap need old * bytes≤281474976710656:=by
 refine Ck (A3 _ (nextcap_le need old h)) ?_;have h1:(need+(need+768) / 4+512) * bytes=need * bytes+((need+768) / 4) * bytes+512 * bytes:=by rw [B4,B4]
 have h2:((need+768) / 4) * bytes≤(need * bytes+768 * bytes):=by
  rw [← B4];exact A3 _ (Nat.div_le_self _ _)
 have h3:((need+768) / 4) * bytes * 4≤need * bytes+768 * bytes:=by
  rw [← B4,Nat.mul_right_comm];exact A3 _ (Nat.div_mul_le_self _ _)
 omega
theorem M2 (z:Array Value) (k:Nat):(Builtin.zeroCells z k).size=k * z.size:=by simp [Builtin.zeroCells]
structure ElemT (P:Program) (E:TypeId) (m b:Nat) (z:Value):Prop where
 size:(P.info? E).map (·.size)=some m
 bytes:(P.info? E).map (·.bytes)=some b
 zero:(P.info? E).bind (·.zero)=some z
 zsize:z.cells.size=m
theorem Eq {α:Type} [Rep α] {ops:Array Oper} {rest:List Oper} {o:Oper} {Q:Exit→Act→World→Prop} {a:Act} {w:World} {g:Gh} {cks:List Hl} {fr:Hl} {T T' E E':TypeId} {x y:Operand} {k d bytes m:Nat} {z v u:Value} {c:Hl} {l r l':List α} {cs:List Value}
  (hg:Region.wanted o (yielded ops a.tmps)=true) (ho:o.op=.call { callee:=.builtin .append,args:=#[x,y],argTypes:=#[T,T'] }) (hT:P.underlying T=some (.slice E)) (hT':P.underlying T'=some (.slice E')) (hE:ElemT P E (Rep.n α) bytes z) (hbz:bytes≤1000000) (hbp:0 < bytes)
  (F:Fr n a e) (S:St g cks fr w) (hx:Cn e x=some v) (hy:Cn e y=some u) (hk:cks[k]? = some c) (ho':OwnS g l v c) (hr:Cat g r cs) (hm:m=r.length) (hrd:Reads w (Rep.n α) u m cs) (hl':app? bytes l r=some l') (hd:o.dst=some d) (hn:Nat.blt d n.sz=true)
  (K:∀ v' c' a' w',OwnS g l' v' c'→St g (cks.set k c') fr w'→Fr n a' ((d,v')::e)→wpListIn (RW ρ) 0 P ops Q rest a' w'):wpListIn (RW ρ) 0 P ops Q (o::rest) a w:=by
 obtain ⟨hroom,rfl⟩:=app?_some hl';subst hm
 have hklt:k < cks.length:=by
  rcases Es k cks.length with h' | h'
  ·exact h'
  ·simp [List.getElem?_eq_none h'] at hk
 obtain ⟨i,hi⟩:∃ i,P.info? E=some i:=by
  cases h:P.info? E with
  | none=>have:=hE.size;rw [h] at this;cases this
  | some i=>exact ⟨i,rfl⟩
 have hsz:i.size=Rep.n α:=by have:=hE.size;rw [hi] at this;simpa using this
 have hby:i.bytes=bytes:=by have:=hE.bytes;rw [hi] at this;simpa using this
 have hz:i.zero=some z:=by have:=hE.zero;rw [hi] at this;simpa using this
 have hsrc:=hrd.src (P:=P) hT'
 have hent:∀ v' w',(Builtin.append_ #[T,T'] o.type #[v,u]).run P w=.ok v' w'→(execOp a.eval o).run P w=.ok (.value v') w':=by
  intro v' w' h;simp [execOp,ho,F.eval hx,F.eval hy,resolve,invoke,builtin,h]
 have close:∀ v' w' c',(Builtin.append_ #[T,T'] o.type #[v,u]).run P w=.ok v' w'→OwnS g (l++r) v' c'→St g (cks.set k c') fr w'→wpListIn (RW ρ) 0 P ops Q (o::rest) a w:=by
  intro v' w' c' h1 h2 h3;refine Tv hg (hent _ _ h1) (by intro d;simp) ?_
  simp only [Oper.uponIn,hd];exact K v' c' _ w' h2 h3 (F.put hn)
 obtain ⟨cs0,hcat,hown⟩:=ho'.cat
 have grow:∀ (base:Option Addr) (cap:Nat),v=.slice base l.length cap→cap < l.length+r.length→(Builtin.firstCells i.size l.length (.slice base l.length cap)).run P w.drew=.ok cs0.toArray w.drew→wpListIn (RW ρ) 0 P ops Q (o::rest) a w:=by
  intro base cap hv hlt hold
  have h63:((l.length+r.length:Nat):Int)≤9223372036854775807:=by
   have:l.length+r.length≤(l.length+r.length) * bytes:=Nat.le_mul_of_pos_right _ hbp;omega
  have hrun:=run_append_grow_src (P:=P) w T T' o.type E i z hT hi hz base l.length cap cs0 hold u r.length cs (by rw [hsz];exact hsrc) hlt h63 (by rw [hby];exact fits hlt hroom hbz)
  rw [← hv] at hrun;have hge:=grownCap_ge w (l.length+r.length) cap E;refine close _ _ [(w.heap.size,.cells ((cs0++cs).toArray++Builtin.zeroCells z.cells (grownCap w (l.length+r.length) cap E - (l.length+r.length))) E (0,0))] hrun ?_ ?_
  ·have hcc:=hcat.append hr;rw [← Au];refine OwnS.of_cat hcc (by simpa using hge) ?_ ?_
   ·simp only [Array.size_append,List.size_toArray,M2,hE.zsize];rw [hcc.1,← B4,Au];congr 1;omega
   ·rw [Array.toList_append,Cy (by simp),C5 (by simp)]
  ·refine St.back k hklt ?_;have h2:=(S.front k hk).drop;exact h2.push rfl rfl rfl rfl
 rcases hown with ⟨rfl,rfl,rfl⟩ | ⟨b,cap,arr,t,rfl,rfl,h3,h4,h5⟩
 ·
  have hl0:l=[]:=by
   rcases ho' with ⟨_,h,_⟩ | ⟨_,_,_,_,h,_⟩
   ·exact h
   ·cases h
  subst hl0;rcases Nat.eq_zero_or_pos r.length with h0 | h0
  ·have hr0:r=[]:=Ec h0;subst hr0;have hcs:cs=[]:=by have:=hr.1;simpa using this
   subst hcs;refine close (.slice Option.none 0 0) w [] ?_ (by simpa using OwnS.nil g) ?_
   ·have hln:=hsrc.len w;have hc0:=hsrc.cells;simp only [Kt] at hln hc0;rcases hsrc.kind with ⟨e',hk'⟩ | hk' <;> simp [Builtin.append_,run_underlying hT,run_underlying hk',sizeOf,typeInfo,hi,hln,hsz,hc0]
   ·have:=Nj (l:=cks) (i:=k) (a:=([]:Hl))
    have hset:cks.set k []=cks:=by
     apply List.ext_getElem?;intro j;by_cases hj:k=j
     ·subst hj;rw [List.getElem?_set_self hklt,hk]
     ·rw [List.getElem?_set_ne hj]
    rw [hset];exact S
  ·exact grow Option.none 0 rfl (by simpa using h0) (by simpa using run_firstCells_none (P:=P) w.drew i.size 0 0 0)
 ·by_cases hfit:l.length+r.length≤cap
  ·
   have hb:=S.heap k hk
   have hfits:l.length * Rep.n α+cs.length≤arr.size:=by
    rw [hr.1,← B4,h4];exact A3 _ hfit
   obtain ⟨w',e1,e2,e3,e4,e5,e6,e7,e8⟩:=Ql (P:=P) (w:=w) (b:=b) (c:=arr) (t:=t) (vs:=cs) (l.length * Rep.n α) 0 hb (by simpa using hfits) hr.one
   refine close (.slice (some ⟨b,0,Option.none⟩) (l.length+r.length) cap) w' [(b,.cells (spl arr (l.length * Rep.n α) cs) t (0,0))] ?_ ?_ ?_
   ·have hcl:=hsrc.cells;rcases hsrc.kind with ⟨e',hk'⟩ | hk' <;> simp [Builtin.append_,run_underlying hT,run_underlying hk',sizeOf,typeInfo,hi,hsrc.len,hfit,hsz,hcl,O9,e1]
   ·have hcc:=hcat.append hr;rw [← Au];refine OwnS.of_cat hcc (by simpa using hfit) ?_ ?_
    ·rw [Ve hfits,h4]
    ·have h0:=hcat.1;simp only [spl,← h5];rw [Cy (by simp),C5 (by simp)]
   ·refine St.back k hklt ?_;exact (S.front k hk).write (w':=w') (by rw [e2];simp) e3 e5 e6 e7 (Nat.le_of_eq e8.symm)
  ·
   refine grow (some ⟨b,0,Option.none⟩) cap rfl (by omega) ?_
   have hb:=S.heap k hk;refine run_firstCells_some (P:=P) w.drew i.size l.length ⟨b,0,Option.none⟩ l.length cap cs0 (by rw [hcat.1,hsz]) ?_
   intro j u' hj;rw [O9,Hm]
   have hjl:j < cs0.length:=by
    rcases Es j cs0.length with h' | h'
    ·exact h'
    ·simp [List.getElem?_eq_none h'] at hj
   have hjl':=hjl;rw [hcat.1] at hjl';have hbd:w.drew.heap[b]? = some (.cells arr t (0,0)):=hb;rw [cell_at hbd];rw [← h5,List.getElem?_take,Af hjl'] at hj;simpa using hj
end Go.Dc
