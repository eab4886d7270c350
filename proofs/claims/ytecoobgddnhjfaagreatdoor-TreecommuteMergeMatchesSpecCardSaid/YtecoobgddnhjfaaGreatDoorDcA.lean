import Derived.WalkKit
import Derived.Deep.Quiet
import Derived.CallsIn
import Derived.TacticsIn
import Derived.OrdersIn
import Derived.RangeFuncIn
import Derived.RangeFuncLeaves
namespace Go.Dc
open Go
theorem Z {α:Sort _} {a:α}:a=a:=rfl
abbrev Aa:=@Option.bind_some
abbrev Af:=@if_pos
abbrev Ae:=@if_neg
abbrev Av:=@List.length_append
abbrev Ax:=@List.length_singleton
abbrev Ah:=@Bool.false_ne_true
abbrev Bn:=@List.getElem_mem
abbrev As:=@decide_eq_true
abbrev Ao:=@decide_eq_false
abbrev Cl:=@Bool.false_eq_true
abbrev A3:=@Nat.mul_le_mul_right
abbrev B2:=@List.mem_cons_of_mem
abbrev Bg:=@List.take_succ_eq_append_getElem
abbrev Bi:=@List.mem_singleton
abbrev Bj:=@List.mem_append
abbrev Bh:=@Int.toNat_natCast
abbrev Az:=@List.append_assoc
abbrev Cd:=@List.mem_cons
abbrev B9:=@List.length_take
abbrev C6:=@List.mem_cons_self
abbrev Da:=@List.getElem_of_mem
abbrev Mp:=@of_decide_eq_true
abbrev C7:=@List.take_append_of_le_length
abbrev Ce:=@List.pairwise_iff_getElem
abbrev D0:=@List.take_of_length_le
abbrev Cg:=@decide_eq_true_eq
abbrev G9:=@Bool.not_true
abbrev Cc:=@Nat.le_trans
abbrev Ew:=@List.length_cons
abbrev Km:=@Option.some.inj
abbrev D4:=@decide_eq_decide
abbrev Dz:=@List.eq_nil_of_length_eq_zero
abbrev Ec:=@Bool.and_eq_true
abbrev C1:=@Nat.le_refl
abbrev D3:=@Nat.zero_le
abbrev Em:=@List.pairwise_cons
abbrev Hb:=@List.mem_of_mem_take
abbrev Ef:=@List.drop_of_length_le
abbrev Et:=@List.length_map
abbrev De:=@List.take_length
abbrev Dh:=@List.length_filterMap_le
abbrev Kv:=@List.length_filter_le
abbrev Nn:=@Nat.le_of_lt_succ
abbrev Ht:=@Nat.lt_or_eq_of_le
abbrev O0:=@Nat.lt_trichotomy
abbrev Ej:=@List.mem_append_left
abbrev E5:=@List.mem_append_right
abbrev Gn:=@List.getElem_append_left
abbrev H8:=@List.getElem_append_right
abbrev G8:=@List.pairwise_append
abbrev Dg:=@List.length_drop
abbrev E7:=@List.getElem_take
abbrev Eg:=@List.getElem_drop
abbrev G2:=@List.mem_filter
abbrev Eb:=@List.drop_eq_getElem_cons
abbrev L4:=@List.drop_eq_nil_of_le
abbrev Bv:=@List.getElem?_eq_getElem
abbrev Li:=@List.eq_nil_or_concat
abbrev Mb:=@List.concat_eq_append
abbrev Hy:=@List.any_append
abbrev Kz:=@List.any_eq_true
abbrev Kq:=@List.any_eq_false
abbrev Lj:=@List.any_cons
abbrev Hx:=@List.foldl_cons
abbrev M5:=@List.filter_append
abbrev Bo:=@List.nil_append
abbrev Bx:=@List.append_nil
abbrev Lb:=@List.mem_map_of_mem
abbrev Hz:=@List.mem_map
abbrev M4:=@List.mem_filterMap
abbrev Lx:=@List.map_append
abbrev N2:=@List.filter_cons
abbrev Gt:=@Bool.or_eq_true
abbrev Lu:=@Bool.eq_iff_iff
abbrev E1:=@decide_eq_false_iff_not
abbrev G1:=@List.length_nil
abbrev Hw:=@List.take_zero
abbrev H9:=@List.mem_take_iff_getElem
abbrev L1:=@List.length_pos_iff
abbrev Tq:=@Nat.mul_le_mul
abbrev Hr:=@List.getElem_cons_succ
abbrev N3:=@List.set_eq_of_length_le
abbrev Og:=@Option.map_some
abbrev N8:=@Bool.or_false
abbrev K1:=@Bool.false_or
abbrev Gc:=@Nat.lt_or_ge
abbrev H2:=@List.perm_append_comm
abbrev O5:=@List.Pairwise.nil
abbrev Ki:=@List.take_append_drop
abbrev Gq:=@List.mem_of_mem_drop
abbrev Hk:=@decide_true
abbrev Gi:=@if_true
abbrev Eh:=@if_false
abbrev Ux:=@Bool.or_true
abbrev Lz:=@Bool.and_self
abbrev Cp:=@Nat.add_mul
abbrev Tn:=@Option.some_or
abbrev Nt:=@List.getLast?_append
abbrev Lv:=@List.getLast?_singleton
abbrev Mn:=@List.dropLast_concat
abbrev He:=@List.Perm.append_left
abbrev Hp:=@List.Perm.append_right
abbrev G5:=@List.drop_drop
abbrev Ua:=@List.take_add
abbrev M0:=@List.Perm.refl
abbrev Ow:=@List.flatMap_cons
abbrev Ey:=@List.map_cons
abbrev Mf:=@Nat.sub_self
abbrev Ho:=@Nat.zero_add
abbrev Eu:=@Nat.add_zero
abbrev Uf:=@Nat.mod_eq_of_lt
abbrev H0:=@List.length_replicate
abbrev Qt:=@List.length_eraseIdx
abbrev K8:=@List.pairwise_singleton
abbrev Ac:=List ByteArray
structure Gh where
 snap:Nat→Option Obj
 os:Os
 out:Array (Nat×ByteArray)
 tape:Nat→Question→Nat
 dr:Nat
abbrev Hl:=List (Nat×Obj)
structure St0 (g:Gh) (o:Hl) (w:World):Prop where
 snap:∀ b x,g.snap b=some x→w.heap[b]? = some x
 own:∀ p∈o,w.heap[p.1]? = some p.2∧g.snap p.1=Option.none
 nd:(o.map (·.1)).Nodup
 os:w.os=g.os
 out:w.output=g.out
 tape:w.tape=g.tape
 dr:g.dr≤w.drawn
structure Le (g g':Gh):Prop where
 snap:∀ b x,g.snap b=some x→g'.snap b=some x
 os:g'.os=g.os
 out:g'.out=g.out
 tape:g'.tape=g.tape
 dr:g.dr≤g'.dr
theorem Le.refl (g:Gh):Le g g:=⟨fun _ _ h=>h,rfl,rfl,rfl,C1 _⟩
theorem Le.trans {a b c:Gh} (h:Le a b) (h':Le b c):Le a c:=⟨fun _ _ x=>h'.snap _ _ (h.snap _ _ x),h'.os.trans h.os,h'.out.trans h.out,h'.tape.trans h.tape,Cc h.dr h'.dr⟩
def fl:List Hl→Hl→Hl
 | [],fr=>fr
 | c::r,fr=>c++fl r fr
abbrev St (g:Gh) (cs:List Hl) (fr:Hl) (w:World):Prop:=St0 g (fl cs fr) w
theorem fl_append (xs ys:List Hl) (fr:Hl):fl (xs++ys) fr=fl xs (fl ys fr):=by
 induction xs with
 | nil=>rfl
 | cons x xs ih=>simp [fl,ih]
theorem fl_set_perm {cs:List Hl} {fr:Hl} {k:Nat} {c:Hl} (h:cs[k]? = some c):(fl cs fr).Perm (c++fl (cs.set k []) fr):=by
 induction cs generalizing k with
 | nil=>simp at h
 | cons x xs ih =>
  cases k with
  | zero=>simp at h;subst h;simp [fl]
  | succ k =>
   simp at h;have:=ih h;simp only [fl,List.set_cons_succ];refine (He x this).trans ?_;rw [← Az,← Az];exact Hp _ H2
theorem St0.perm {g:Gh} {o o':Hl} {w:World} (h:St0 g o w) (p:o.Perm o'):St0 g o' w where
 snap:=h.snap
 own:=fun q hq=>h.own q (p.mem_iff.2 hq)
 nd:=(p.map _).nodup_iff.1 h.nd
 os:=h.os
 out:=h.out
 tape:=h.tape
 dr:=h.dr
theorem St0.weak {g g':Gh} {o:Hl} {w:World} (l:Le g g') (h:St0 g' o w):St0 g o w where
 snap:=fun b x hb=>h.snap b x (l.snap b x hb)
 own:=fun p hp=>⟨(h.own p hp).1,by
  cases hg:g.snap p.1 with
  | none=>rfl
  | some x=>have:=(h.own p hp).2;rw [l.snap _ _ hg] at this;cases this⟩
 nd:=h.nd
 os:=h.os.trans l.os
 out:=h.out.trans l.out
 tape:=h.tape.trans l.tape
 dr:=Cc l.dr h.dr
theorem St0.drop {g:Gh} {c o:Hl} {w:World} (h:St0 g (c++o) w):St0 g o w where
 snap:=h.snap
 own:=fun p hp=>h.own p (E5 _ hp)
 nd:=by have:=h.nd;rw [Lx,List.nodup_append] at this;exact this.2.1
 os:=h.os
 out:=h.out
 tape:=h.tape
 dr:=h.dr
theorem St.front {g:Gh} {cs:List Hl} {fr:Hl} {w:World} (k:Nat) {c:Hl} (hk:cs[k]? = some c) (h:St g cs fr w):St0 g (c++fl (cs.set k []) fr) w :=
 h.perm (fl_set_perm hk)
theorem St.back {g:Gh} {cs:List Hl} {fr:Hl} {w:World} (k:Nat) {c:Hl} (hk:k < cs.length) (h:St0 g (c++fl (cs.set k []) fr) w):St g (cs.set k c) fr w:=by
 refine h.perm ?_;have:=fl_set_perm (cs:=cs.set k c) (fr:=fr) (k:=k) (c:=c) (by simp [hk])
 simpa using this.symm
theorem St.lose {g:Gh} {cs:List Hl} {fr:Hl} {w:World} (k:Nat) (h:St g cs fr w):St g (cs.set k []) fr w:=by
 cases hk:cs[k]? with
 | none=>rw [N3 (by simpa using hk)];exact h
 | some c=>exact (h.front k hk).drop
theorem fl_erase (cs:List Hl) (fr:Hl) (k:Nat):fl (cs.eraseIdx k) fr=fl (cs.set k []) fr:=by
 induction cs generalizing k with
 | nil=>simp
 | cons x xs ih =>
  cases k with
  | zero=>simp [fl]
  | succ k=>simp [fl,ih]
theorem St.heap {g:Gh} {cs:List Hl} {fr:Hl} {w:World} {b:Nat} {x:Obj} (k:Nat) (hk:cs[k]? = some [(b,x)]) (h:St g cs fr w):w.heap[b]? = some x :=
 ((h.front k hk).own (b,x) (by simp)).1
theorem St.snapNone {g:Gh} {cs:List Hl} {fr:Hl} {w:World} {b:Nat} {x:Obj} (k:Nat) (hk:cs[k]? = some [(b,x)]) (h:St g cs fr w):g.snap b=Option.none :=
 ((h.front k hk).own (b,x) (by simp)).2
theorem T6 {w:World} {b:Nat} {x:Obj} (h:w.heap[b]? = some x):b < w.heap.size:=by
 rcases Gc b w.heap.size with h' | h'
 ·exact h'
 ·simp [Array.getElem?_eq_none h'] at h
theorem St0.push {g:Gh} {o:Hl} {w w':World} {x:Obj} (h:St0 g o w) (hh:w'.heap=w.heap.push x) (ho:w'.os=w.os) (hu:w'.output=w.output) (ht:w'.tape=w.tape) (hq:w.drawn≤w'.drawn:=by first | exact C1 _ | exact Nat.le_succ _):St0 g ((w.heap.size,x)::o) w' where
 snap:=fun b y hb=>by
  have:=h.snap b y hb;rw [hh,Array.getElem?_push,Ae (Nat.ne_of_lt (T6 this))];exact this
 own:=by
  intro p hp;simp only [Cd] at hp;rcases hp with rfl | hp
  ·refine ⟨by simp [hh],?_⟩
   cases hg:g.snap w.heap.size with
   | none=>rfl
   | some y=>have:=T6 (h.snap _ _ hg);omega
  ·have:=h.own p hp;exact ⟨by rw [hh,Array.getElem?_push,Ae (Nat.ne_of_lt (T6 this.1))];exact this.1,this.2⟩
 nd:=by
  simp only [Ey,List.nodup_cons,Hz,not_exists,not_and];exact ⟨fun p hp he=>by have:=T6 (h.own p hp).1;omega,h.nd⟩
 os:=ho.trans h.os
 out:=hu.trans h.out
 tape:=ht.trans h.tape
 dr:=Cc h.dr hq
theorem St0.keep {g:Gh} {o:Hl} {w w':World} (h:St0 g o w) (hh:w'.heap=w.heap) (ho:w'.os=w.os) (hu:w'.output=w.output) (ht:w'.tape=w.tape) (hq:w.drawn≤w'.drawn:=by first | exact C1 _ | exact Nat.le_succ _):St0 g o w' where
 snap:=fun b y hb=>by rw [hh];exact h.snap b y hb
 own:=fun p hp=>by rw [hh];exact h.own p hp
 nd:=h.nd
 os:=ho.trans h.os
 out:=hu.trans h.out
 tape:=ht.trans h.tape
 dr:=Cc h.dr hq
theorem St0.write {g:Gh} {o:Hl} {w w':World} {b:Nat} {x y:Obj} (h:St0 g ((b,x)::o) w) (hb:w'.heap[b]? = some y) (hr:∀ c,c≠b→w'.heap[c]? = w.heap[c]?) (ho:w'.os=w.os) (hu:w'.output=w.output) (ht:w'.tape=w.tape) (hq:w.drawn≤w'.drawn:=by first | exact C1 _ | exact Nat.le_succ _) :
  St0 g ((b,y)::o) w' where
 snap:=fun c z hc=>by
  have hb':=(h.own (b,x) (by simp)).2
  rw [hr c (fun e=>by rw [e] at hc;rw [hb'] at hc;cases hc)]
  exact h.snap c z hc
 own:=by
  intro p hp;simp only [Cd] at hp;rcases hp with rfl | hp
  ·exact ⟨hb,(h.own (b,x) (by simp)).2⟩
  ·have hne:p.1≠b:=by
    have:=h.nd;simp only [Ey,List.nodup_cons,Hz,not_exists,not_and] at this;exact fun e=>this.1 p hp e
   rw [hr _ hne];exact h.own p (by simp [hp])
 nd:=by have:=h.nd;simpa using this
 os:=ho.trans h.os
 out:=hu.trans h.out
 tape:=ht.trans h.tape
 dr:=Cc h.dr hq
def Gh.add (g:Gh) (c:Hl):Gh:={ g with snap:=fun b=>(g.snap b).orElse fun _=>(c.find? (·.1 == b)).map (·.2) }
theorem Le.add (g:Gh) (c:Hl):Le g (g.add c):=⟨fun b x h=>by simp [Gh.add,h],rfl,rfl,rfl,C1 _⟩
theorem find_of_mem {c:Hl} {p:Nat×Obj} (hn:(c.map (·.1)).Nodup) (hp:p∈c):c.find? (·.1 == p.1)=some p:=by
 induction c with
 | nil=>cases hp
 | cons q r ih =>
  simp only [Ey,List.nodup_cons] at hn;simp only [Cd] at hp;rcases hp with rfl | hp
  ·simp
  ·have:q.1≠p.1:=fun e=>hn.1 (by rw [e];exact Lb hp)
   simp [this,ih hn.2 hp]
theorem St0.freeze {g:Gh} {c o:Hl} {w:World} (h:St0 g (c++o) w):St0 (g.add c) o w where
 snap:=by
  intro b x hb;simp only [Gh.add] at hb;cases hg:g.snap b with
  | some y=>simp [hg] at hb;subst hb;exact h.snap _ _ hg
  | none =>
   simp [hg] at hb;obtain ⟨b',hb⟩:=hb;have hm:=List.mem_of_find?_eq_some hb;have he:=List.find?_some hb;simp at he;have:=(h.own (b',x) (Ej _ hm)).1;simp at this;rw [he] at this;exact this
 own:=by
  intro p hp;refine ⟨(h.own p (E5 _ hp)).1,?_⟩;have hg:=(h.own p (E5 _ hp)).2;have hn:=h.nd;rw [Lx,List.nodup_append] at hn;simp only [Gh.add,hg,Option.orElse_none,Option.map_eq_none_iff,List.find?_eq_none,beq_iff_eq];exact fun q hq e=>hn.2.2 q.1 (Lb hq) p.1 (Lb hp) e
 nd:=h.drop.nd
 os:=h.os
 out:=h.out
 tape:=h.tape
 dr:=h.dr
theorem Gh.add_snap {g:Gh} {c:Hl} {o:Hl} {w:World} (h:St0 g (c++o) w) {p:Nat×Obj} (hp:p∈c):(g.add c).snap p.1=some p.2:=by
 have hg:=(h.own p (Ej _ hp)).2;have hn:=h.nd;rw [Lx,List.nodup_append] at hn;simp [Gh.add,hg,find_of_mem hn.1 hp]
theorem St.freeze {g:Gh} {cs:List Hl} {fr:Hl} {w:World} (k:Nat) {c:Hl} (hk:cs[k]? = some c) (h:St g cs fr w):St (g.add c) (cs.eraseIdx k) fr w:=by
 have:=(h.front k hk).freeze;unfold St;rw [fl_erase];exact this
def Tv:List (Nat×Value)→Nat→Option Value
 | [],_=>Option.none
 | p::r,t=>bif Nat.beq p.1 t then some p.2 else Tv r t
structure Fw where
 sz:Nat
 df:List Deferred
instance {k:Nat}:OfNat Fw k:=⟨⟨k,[]⟩⟩
def RW (ρ:Option Nat):Fence:={ Fence.wide with round:=ρ }
structure Fr (n:Fw) (a:Act) (e:List (Nat×Value)):Prop where
 sz:a.tmps.size=n.sz
 df:a.defers=n.df
 get:∀ t v,Tv e t=some v→a.tmps.getD t undef=v
def Dp (e:List (Nat×Value)):Operand→Option Value
 | .tmp t=>Tv e t
 | .const v=>some v
 | .global g=>some (.pointer (some ⟨g,0,Option.none⟩))
 | .func f=>some (.func (.func f) #[] #[])
theorem Fr.eval {n:Fw} {a:Act} {e:List (Nat×Value)} (F:Fr n a e) {x:Operand} {v:Value} (h:Dp e x=some v):a.eval x=v:=by
 cases x with
 | tmp t=>exact F.get t v h
 | const v'=>simpa [Dp,Act.eval] using h
 | global g=>simpa [Dp,Act.eval] using h
 | func f=>simpa [Dp,Act.eval] using h
theorem Fr.put {n:Fw} {a:Act} {e:List (Nat×Value)} (F:Fr n a e) {d:Nat} {v:Value} (hd:Nat.blt d n.sz=true):Fr n (a.put (some d) v) ((d,v)::e) where
 sz:=by simp [Act.put,F.sz]
 df:=by simp [Act.put,F.df]
 get:=by
  intro t u h;have hd':d < n.sz:=by simpa using hd
  by_cases ht:d=t
  ·subst ht;simp only [Tv,Nat.beq_refl,cond_true,Option.some.injEq] at h;subst h;simp [Act.put,F.sz,hd']
  ·have:Nat.beq d t=false:=by
    cases hb:Nat.beq d t with
    | false=>rfl
    | true=>exact absurd (Nat.eq_of_beq_eq_true hb) ht
   simp only [Tv,this,cond_false] at h;have:=F.get t u h;simp only [Act.put];rw [← this];simp [ht]
def Sub (e:List (Nat×Value)):List (Nat×Value)→Prop
 | []=>True
 | p::r=>Tv e p.1=some p.2∧Sub e r
theorem Sub.look {e e':List (Nat×Value)} (h:Sub e e'):∀ t v,Tv e' t=some v→Tv e t=some v:=by
 induction e' with
 | nil=>intro t v h;cases h
 | cons p r ih =>
  intro t v ht;simp only [Tv] at ht;cases hb:Nat.beq p.1 t with
  | true =>
   rw [hb] at ht;simp only [cond_true,Option.some.injEq] at ht;rw [← Nat.eq_of_beq_eq_true hb,← ht];exact h.1
  | false =>
   rw [hb] at ht;exact ih h.2 t v ht
theorem Fr.sub {n:Fw} {a:Act} {e e':List (Nat×Value)} (F:Fr n a e) (h:Sub e e'):Fr n a e' :=
 ⟨F.sz,F.df,fun t v ht=>F.get t v (h.look t v ht)⟩
def argE:Nat→List Value→List (Nat×Value)
 | _,[]=>[]
 | k,v::r=>(k,v)::argE (k+1) r
theorem look_argE {l:List Value} {k t:Nat} {v:Value} (h:Tv (argE k l) t=some v):k≤t∧l[t - k]? = some v:=by
 induction l generalizing k with
 | nil=>cases h
 | cons u r ih =>
  simp only [argE,Tv] at h;cases hb:Nat.beq k t with
  | true =>
   rw [hb] at h;have:=Nat.eq_of_beq_eq_true hb;subst this;simpa using h
  | false =>
   rw [hb] at h;obtain ⟨h1,h2⟩:=ih h;refine ⟨by omega,?_⟩
   rw [show t - k=(t - (k+1))+1 from by omega]
   simpa using h2
theorem Fr.enter {n:Nat} {args:List Value} (h:args.length≤n):Fr ⟨n,[]⟩ { tmps:=args.toArray++Array.replicate (n - args.toArray.size) undef,defers:=[] } (argE 0 args) where
 sz:=by simp;omega
 df:=rfl
 get:=by
  intro t v ht;obtain ⟨_,h2⟩:=look_argE ht;simp at h2
  have hl:t < args.length:=by
   rcases Gc t args.length with h' | h'
   ·exact h'
   ·simp [List.getElem?_eq_none h'] at h2
  rw [Bv hl] at h2;simpa [Array.getElem?_append,hl] using h2
end Go.Dc
