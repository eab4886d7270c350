import Derived.WalkKit
import Derived.Deep.Quiet
import Derived.CallsIn
import Derived.TacticsIn
import Derived.OrdersIn
import Derived.RangeFuncIn
import Derived.RangeFuncLeaves
set_option linter.unusedSimpArgs false
set_option linter.unusedVariables false
namespace Go.Dc
open Go
theorem Z {α:Sort _} {a:α}:a=a:=rfl
abbrev Aa:=@Option.bind_some
abbrev Ad:=@if_pos
abbrev Ac:=@if_neg
abbrev Aj:=@List.length_append
abbrev Ak:=@List.length_singleton
abbrev Ae:=@Bool.false_ne_true
abbrev Ar:=@List.getElem_mem
abbrev Ag:=@decide_eq_true
abbrev Af:=@decide_eq_false
abbrev A6:=@Bool.false_eq_true
abbrev Aq:=@Nat.mul_le_mul_right
abbrev Bk:=@List.mem_cons_of_mem
abbrev As:=@List.take_succ_eq_append_getElem
abbrev A2:=@List.mem_singleton
abbrev Az:=@List.mem_append
abbrev Ay:=@Int.toNat_natCast
abbrev Am:=@List.append_assoc
abbrev Bf:=@List.mem_cons
abbrev Bl:=@List.length_take
abbrev Ce:=@List.mem_cons_self
abbrev Ci:=@List.getElem_of_mem
abbrev Lr:=@of_decide_eq_true
abbrev Cm:=@List.take_append_of_le_length
abbrev B0:=@List.pairwise_iff_getElem
abbrev Cn:=@List.take_of_length_le
abbrev Bs:=@decide_eq_true_eq
abbrev Ct:=@Bool.not_true
abbrev Bx:=@Nat.le_trans
abbrev Eb:=@List.length_cons
abbrev Gg:=@Option.some.inj
abbrev Ch:=@decide_eq_decide
abbrev Db:=@List.eq_nil_of_length_eq_zero
abbrev Cv:=@Bool.and_eq_true
abbrev B7:=@Nat.le_refl
abbrev Cs:=@Nat.zero_le
abbrev D9:=@List.pairwise_cons
abbrev C4:=@List.mem_of_mem_take
abbrev D8:=@List.drop_of_length_le
abbrev C1:=@List.length_map
abbrev Bw:=@List.take_length
abbrev Cj:=@List.length_filterMap_le
abbrev Ks:=@List.length_filter_le
abbrev Ng:=@Nat.le_of_lt_succ
abbrev Hf:=@Nat.lt_or_eq_of_le
abbrev Ou:=@Nat.lt_trichotomy
abbrev D4:=@List.mem_append_left
abbrev Es:=@List.mem_append_right
abbrev Gb:=@List.getElem_append_left
abbrev Hw:=@List.getElem_append_right
abbrev Gy:=@List.pairwise_append
abbrev Cd:=@List.length_drop
abbrev Ew:=@List.getElem_take
abbrev D3:=@List.getElem_drop
abbrev Gt:=@List.mem_filter
abbrev Ls:=@List.length_set
abbrev Cq:=@List.drop_eq_getElem_cons
abbrev Lu:=@List.drop_eq_nil_of_le
abbrev A3:=@List.getElem?_eq_getElem
abbrev Ld:=@List.eq_nil_or_concat
abbrev Ma:=@List.concat_eq_append
abbrev Hh:=@List.any_append
abbrev Ke:=@List.any_eq_true
abbrev Kk:=@List.any_eq_false
abbrev Lc:=@List.any_cons
abbrev Hg:=@List.foldl_cons
abbrev M0:=@List.filter_append
abbrev A8:=@List.nil_append
abbrev Bh:=@List.append_nil
abbrev Kp:=@List.mem_map_of_mem
abbrev G9:=@List.mem_map
abbrev Hu:=@List.mem_filterMap
abbrev Hx:=@List.map_append
abbrev Nt:=@List.filter_cons
abbrev Gd:=@Bool.or_eq_true
abbrev Kr:=@Bool.eq_iff_iff
abbrev Ep:=@decide_eq_false_iff_not
abbrev Ey:=@List.length_nil
abbrev G6:=@List.take_zero
abbrev Hv:=@List.mem_take_iff_getElem
abbrev K7:=@List.length_pos_iff
abbrev M9:=@Nat.le_of_ble_eq_true
abbrev Tt:=@Nat.mul_le_mul
abbrev Hd:=@List.getElem_cons_succ
abbrev Ny:=@List.set_eq_of_length_le
abbrev N7:=@Option.map_some
abbrev N2:=@Bool.or_false
abbrev Ki:=@Bool.false_or
abbrev Ec:=@Nat.lt_or_ge
abbrev E5:=@List.perm_append_comm
abbrev O3:=@List.Pairwise.nil
abbrev Hj:=@List.take_append_drop
abbrev Eo:=@List.mem_of_mem_drop
abbrev C3:=@decide_true
abbrev E4:=@if_true
abbrev Cg:=@if_false
abbrev V6:=@Bool.or_true
abbrev Gk:=@Bool.and_self
abbrev B8:=@Nat.add_mul
abbrev Tx:=@Option.some_or
abbrev Nk:=@List.getLast?_append
abbrev Lp:=@List.getLast?_singleton
abbrev Mm:=@List.dropLast_concat
abbrev Ee:=@List.Perm.append_left
abbrev E2:=@List.Perm.append_right
abbrev Gu:=@List.drop_drop
abbrev U4:=@List.take_add
abbrev Ko:=@List.Perm.refl
abbrev Nj:=@List.flatMap_cons
abbrev Km:=@List.foldl_append
abbrev Dg:=@List.map_cons
abbrev Mb:=@Nat.sub_self
abbrev Gc:=@Nat.zero_add
abbrev Eg:=@Nat.add_zero
abbrev Vn:=@Nat.mod_eq_of_lt
abbrev Gn:=@List.length_replicate
abbrev Qk:=@List.length_eraseIdx
abbrev Hs:=@List.pairwise_singleton
abbrev Ab:=List ByteArray
structure Gh where
 snap:Nat→Option Obj
 os:Os
 out:Array (Nat×ByteArray)
 tape:Nat→Question→Nat
 dr:Nat
abbrev Hl:=List (Nat×Obj)
structure St0 (g:Gh) (o:Hl) (w:World):Prop where
 snap:∀ b x,g.snap b=some x→w.heap[b]? = some x
 own:∀ p∈o,w.heap[p.1]? = some p.2∧g.snap p.1=Option.none
 nd:(o.map (·.1)).Nodup
 os:w.os=g.os
 out:w.output=g.out
 tape:w.tape=g.tape
 dr:g.dr≤w.drawn
structure Le (g g':Gh):Prop where
 snap:∀ b x,g.snap b=some x→g'.snap b=some x
 os:g'.os=g.os
 out:g'.out=g.out
 tape:g'.tape=g.tape
 dr:g.dr≤g'.dr
theorem Le.refl (g:Gh):Le g g:=⟨fun _ _ h=>h,rfl,rfl,rfl,B7 _⟩
theorem Le.trans {a b c:Gh} (h:Le a b) (h':Le b c):Le a c:=⟨fun _ _ x=>h'.snap _ _ (h.snap _ _ x),h'.os.trans h.os,h'.out.trans h.out,h'.tape.trans h.tape,Bx h.dr h'.dr⟩
def fl:List Hl→Hl→Hl
 | [],fr=>fr
 | c::r,fr=>c++fl r fr
abbrev St (g:Gh) (cs:List Hl) (fr:Hl) (w:World):Prop:=St0 g (fl cs fr) w
theorem fl_append (xs ys:List Hl) (fr:Hl):fl (xs++ys) fr=fl xs (fl ys fr):=by
 induction xs with
 | nil=>rfl
 | cons x xs ih=>simp [fl,ih]
theorem fl_set_perm {cs:List Hl} {fr:Hl} {k:Nat} {c:Hl} (h:cs[k]? = some c):(fl cs fr).Perm (c++fl (cs.set k []) fr):=by
 induction cs generalizing k with
 | nil=>simp at h
 | cons x xs ih =>
  cases k with
  | zero=>simp at h;subst h;simp [fl]
  | succ k =>
   simp at h;have:=ih h;simp only [fl,List.set_cons_succ];refine (Ee x this).trans ?_;rw [← Am,← Am];exact E2 _ E5
theorem St0.perm {g:Gh} {o o':Hl} {w:World} (h:St0 g o w) (p:o.Perm o'):St0 g o' w where
 snap:=h.snap
 own:=fun q hq=>h.own q (p.mem_iff.2 hq)
 nd:=(p.map _).nodup_iff.1 h.nd
 os:=h.os
 out:=h.out
 tape:=h.tape
 dr:=h.dr
theorem St0.weak {g g':Gh} {o:Hl} {w:World} (l:Le g g') (h:St0 g' o w):St0 g o w where
 snap:=fun b x hb=>h.snap b x (l.snap b x hb)
 own:=fun p hp=>⟨(h.own p hp).1,by
  cases hg:g.snap p.1 with
  | none=>rfl
  | some x=>have:=(h.own p hp).2;rw [l.snap _ _ hg] at this;cases this⟩
 nd:=h.nd
 os:=h.os.trans l.os
 out:=h.out.trans l.out
 tape:=h.tape.trans l.tape
 dr:=Bx l.dr h.dr
theorem St0.drop {g:Gh} {c o:Hl} {w:World} (h:St0 g (c++o) w):St0 g o w where
 snap:=h.snap
 own:=fun p hp=>h.own p (Es _ hp)
 nd:=by have:=h.nd;rw [Hx,List.nodup_append] at this;exact this.2.1
 os:=h.os
 out:=h.out
 tape:=h.tape
 dr:=h.dr
theorem St.front {g:Gh} {cs:List Hl} {fr:Hl} {w:World} (k:Nat) {c:Hl} (hk:cs[k]? = some c) (h:St g cs fr w):St0 g (c++fl (cs.set k []) fr) w :=
 h.perm (fl_set_perm hk)
theorem St.back {g:Gh} {cs:List Hl} {fr:Hl} {w:World} (k:Nat) {c:Hl} (hk:k < cs.length) (h:St0 g (c++fl (cs.set k []) fr) w):St g (cs.set k c) fr w:=by
 refine h.perm ?_;have:=fl_set_perm (cs:=cs.set k c) (fr:=fr) (k:=k) (c:=c) (by simp [hk])
 simpa using this.symm
theorem St.lose {g:Gh} {cs:List Hl} {fr:Hl} {w:World} (k:Nat) (h:St g cs fr w):St g (cs.set k []) fr w:=by
 cases hk:cs[k]? with
 | none=>rw [Ny (by simpa using hk)];exact h
 | some c=>exact (h.front k hk).drop
theorem fl_erase (cs:List Hl) (fr:Hl) (k:Nat):fl (cs.eraseIdx k) fr=fl (cs.set k []) fr:=by
 induction cs generalizing k with
 | nil=>simp
 | cons x xs ih =>
  cases k with
  | zero=>simp [fl]
  | succ k=>simp [fl,ih]
theorem St.heap {g:Gh} {cs:List Hl} {fr:Hl} {w:World} {b:Nat} {x:Obj} (k:Nat) (hk:cs[k]? = some [(b,x)]) (h:St g cs fr w):w.heap[b]? = some x :=
 ((h.front k hk).own (b,x) (by simp)).1
theorem St.snapNone {g:Gh} {cs:List Hl} {fr:Hl} {w:World} {b:Nat} {x:Obj} (k:Nat) (hk:cs[k]? = some [(b,x)]) (h:St g cs fr w):g.snap b=Option.none :=
 ((h.front k hk).own (b,x) (by simp)).2
theorem U3 {w:World} {b:Nat} {x:Obj} (h:w.heap[b]? = some x):b < w.heap.size:=by
 rcases Ec b w.heap.size with h' | h'
 ·exact h'
 ·simp [Array.getElem?_eq_none h'] at h
theorem St0.push {g:Gh} {o:Hl} {w w':World} {x:Obj} (h:St0 g o w) (hh:w'.heap=w.heap.push x) (ho:w'.os=w.os) (hu:w'.output=w.output) (ht:w'.tape=w.tape) (hq:w.drawn≤w'.drawn:=by first | exact B7 _ | exact Nat.le_succ _):St0 g ((w.heap.size,x)::o) w' where
 snap:=fun b y hb=>by
  have:=h.snap b y hb;rw [hh,Array.getElem?_push,Ac (Nat.ne_of_lt (U3 this))];exact this
 own:=by
  intro p hp;simp only [Bf] at hp;rcases hp with rfl | hp
  ·refine ⟨by simp [hh],?_⟩
   cases hg:g.snap w.heap.size with
   | none=>rfl
   | some y=>have:=U3 (h.snap _ _ hg);omega
  ·have:=h.own p hp;exact ⟨by rw [hh,Array.getElem?_push,Ac (Nat.ne_of_lt (U3 this.1))];exact this.1,this.2⟩
 nd:=by
  simp only [Dg,List.nodup_cons,G9,not_exists,not_and];exact ⟨fun p hp he=>by have:=U3 (h.own p hp).1;omega,h.nd⟩
 os:=ho.trans h.os
 out:=hu.trans h.out
 tape:=ht.trans h.tape
 dr:=Bx h.dr hq
theorem St0.keep {g:Gh} {o:Hl} {w w':World} (h:St0 g o w) (hh:w'.heap=w.heap) (ho:w'.os=w.os) (hu:w'.output=w.output) (ht:w'.tape=w.tape) (hq:w.drawn≤w'.drawn:=by first | exact B7 _ | exact Nat.le_succ _):St0 g o w' where
 snap:=fun b y hb=>by rw [hh];exact h.snap b y hb
 own:=fun p hp=>by rw [hh];exact h.own p hp
 nd:=h.nd
 os:=ho.trans h.os
 out:=hu.trans h.out
 tape:=ht.trans h.tape
 dr:=Bx h.dr hq
theorem St0.write {g:Gh} {o:Hl} {w w':World} {b:Nat} {x y:Obj} (h:St0 g ((b,x)::o) w) (hb:w'.heap[b]? = some y) (hr:∀ c,c≠b→w'.heap[c]? = w.heap[c]?) (ho:w'.os=w.os) (hu:w'.output=w.output) (ht:w'.tape=w.tape) (hq:w.drawn≤w'.drawn:=by first | exact B7 _ | exact Nat.le_succ _) :
  St0 g ((b,y)::o) w' where
 snap:=fun c z hc=>by
  have hb':=(h.own (b,x) (by simp)).2
  rw [hr c (fun e=>by rw [e] at hc;rw [hb'] at hc;cases hc)]
  exact h.snap c z hc
 own:=by
  intro p hp;simp only [Bf] at hp;rcases hp with rfl | hp
  ·exact ⟨hb,(h.own (b,x) (by simp)).2⟩
  ·have hne:p.1≠b:=by
    have:=h.nd;simp only [Dg,List.nodup_cons,G9,not_exists,not_and] at this;exact fun e=>this.1 p hp e
   rw [hr _ hne];exact h.own p (by simp [hp])
 nd:=by have:=h.nd;simpa using this
 os:=ho.trans h.os
 out:=hu.trans h.out
 tape:=ht.trans h.tape
 dr:=Bx h.dr hq
def Gh.add (g:Gh) (c:Hl):Gh:={ g with snap:=fun b=>(g.snap b).orElse fun _=>(c.find? (·.1 == b)).map (·.2) }
theorem Le.add (g:Gh) (c:Hl):Le g (g.add c):=⟨fun b x h=>by simp [Gh.add,h],rfl,rfl,rfl,B7 _⟩
theorem find_of_mem {c:Hl} {p:Nat×Obj} (hn:(c.map (·.1)).Nodup) (hp:p∈c):c.find? (·.1 == p.1)=some p:=by
 induction c with
 | nil=>cases hp
 | cons q r ih =>
  simp only [Dg,List.nodup_cons] at hn;simp only [Bf] at hp;rcases hp with rfl | hp
  ·simp
  ·have:q.1≠p.1:=fun e=>hn.1 (by rw [e];exact Kp hp)
   simp [this,ih hn.2 hp]
theorem St0.freeze {g:Gh} {c o:Hl} {w:World} (h:St0 g (c++o) w):St0 (g.add c) o w where
 snap:=by
  intro b x hb;simp only [Gh.add] at hb;cases hg:g.snap b with
  | some y=>simp [hg] at hb;subst hb;exact h.snap _ _ hg
  | none =>
   simp [hg] at hb;obtain ⟨b',hb⟩:=hb;have hm:=List.mem_of_find?_eq_some hb;have he:=List.find?_some hb;simp at he;have:=(h.own (b',x) (D4 _ hm)).1;simp at this;rw [he] at this;exact this
 own:=by
  intro p hp;refine ⟨(h.own p (Es _ hp)).1,?_⟩;have hg:=(h.own p (Es _ hp)).2;have hn:=h.nd;rw [Hx,List.nodup_append] at hn;simp only [Gh.add,hg,Option.orElse_none,Option.map_eq_none_iff,List.find?_eq_none,beq_iff_eq];exact fun q hq e=>hn.2.2 q.1 (Kp hq) p.1 (Kp hp) e
 nd:=h.drop.nd
 os:=h.os
 out:=h.out
 tape:=h.tape
 dr:=h.dr
theorem Gh.add_snap {g:Gh} {c:Hl} {o:Hl} {w:World} (h:St0 g (c++o) w) {p:Nat×Obj} (hp:p∈c):(g.add c).snap p.1=some p.2:=by
 have hg:=(h.own p (D4 _ hp)).2;have hn:=h.nd;rw [Hx,List.nodup_append] at hn;simp [Gh.add,hg,find_of_mem hn.1 hp]
theorem St.freeze {g:Gh} {cs:List Hl} {fr:Hl} {w:World} (k:Nat) {c:Hl} (hk:cs[k]? = some c) (h:St g cs fr w):St (g.add c) (cs.eraseIdx k) fr w:=by
 have:=(h.front k hk).freeze;unfold St;rw [fl_erase];exact this
def Kf:List (Nat×Value)→Nat→Option Value
 | [],_=>Option.none
 | (k,v)::r,t=>bif Nat.beq k t then some v else Kf r t
theorem Wp {p:Nat×Value} {r:List (Nat×Value)} {t:Nat}:Kf (p::r) t=bif Nat.beq p.1 t then some p.2 else Kf r t:=rfl
structure Fw where
 sz:Nat
 df:List Deferred
instance {k:Nat}:OfNat Fw k:=⟨⟨k,[]⟩⟩
def RW (ρ:Option Nat):Fence:={ Fence.wide with round:=ρ }
structure Fr (n:Fw) (a:Act) (e:List (Nat×Value)):Prop where
 sz:a.tmps.size=n.sz
 df:a.defers=n.df
 get:∀ t v,Kf e t=some v→a.tmps.getD t undef=v
def Bn (e:List (Nat×Value)):Operand→Option Value
 | .tmp t=>Kf e t
 | .const v=>some v
 | .global g=>some (.pointer (some ⟨g,0,Option.none⟩))
 | .func f=>some (.func (.func f) #[] #[])
theorem Fr.eval {n:Fw} {a:Act} {e:List (Nat×Value)} (F:Fr n a e) {x:Operand} {v:Value} (h:Bn e x=some v):a.eval x=v:=by
 cases x with
 | tmp t=>exact F.get t v h
 | const v'=>simpa [Bn,Act.eval] using h
 | global g=>simpa [Bn,Act.eval] using h
 | func f=>simpa [Bn,Act.eval] using h
theorem Fr.put {n:Fw} {a:Act} {e:List (Nat×Value)} (F:Fr n a e) {d:Nat} {v:Value} (hd:Nat.blt d n.sz=true):Fr n (a.put (some d) v) ((d,v)::e) where
 sz:=by simp [Act.put,F.sz]
 df:=by simp [Act.put,F.df]
 get:=by
  intro t u h;have hd':d < n.sz:=by simpa using hd
  by_cases ht:d=t
  ·subst ht;simp only [Wp,Nat.beq_refl,cond_true,Option.some.injEq] at h;subst h;simp [Act.put,F.sz,hd']
  ·have:Nat.beq d t=false:=by
    cases hb:Nat.beq d t with
    | false=>rfl
    | true=>exact absurd (Nat.eq_of_beq_eq_true hb) ht
   simp only [Wp,this,cond_false] at h;have:=F.get t u h;simp only [Act.put];rw [← this];simp [ht]
def Sub (e:List (Nat×Value)):List (Nat×Value)→Prop
 | []=>True
 | p::r=>Kf e p.1=some p.2∧Sub e r
theorem Sub.look {e e':List (Nat×Value)} (h:Sub e e'):∀ t v,Kf e' t=some v→Kf e t=some v:=by
 induction e' with
 | nil=>intro t v h;cases h
 | cons p r ih =>
  intro t v ht;simp only [Wp] at ht;cases hb:Nat.beq p.1 t with
  | true =>
   rw [hb] at ht;simp only [cond_true,Option.some.injEq] at ht;rw [← Nat.eq_of_beq_eq_true hb,← ht];exact h.1
  | false =>
   rw [hb] at ht;exact ih h.2 t v ht
theorem Fr.sub {n:Fw} {a:Act} {e e':List (Nat×Value)} (F:Fr n a e) (h:Sub e e'):Fr n a e' :=
 ⟨F.sz,F.df,fun t v ht=>F.get t v (h.look t v ht)⟩
def argE:Nat→List Value→List (Nat×Value)
 | _,[]=>[]
 | k,v::r=>(k,v)::argE (k+1) r
theorem look_argE {l:List Value} {k t:Nat} {v:Value} (h:Kf (argE k l) t=some v):k≤t∧l[t - k]? = some v:=by
 induction l generalizing k with
 | nil=>cases h
 | cons u r ih =>
  simp only [argE,Wp] at h;cases hb:Nat.beq k t with
  | true =>
   rw [hb] at h;have:=Nat.eq_of_beq_eq_true hb;subst this;simpa using h
  | false =>
   rw [hb] at h;obtain ⟨h1,h2⟩:=ih h;refine ⟨by omega,?_⟩
   rw [show t - k=(t - (k+1))+1 from by omega]
   simpa using h2
theorem Fr.enter {n:Nat} {args:List Value} (h:args.length≤n):Fr ⟨n,[]⟩ { tmps:=args.toArray++Array.replicate (n - args.toArray.size) undef,defers:=[] } (argE 0 args) where
 sz:=by simp;omega
 df:=rfl
 get:=by
  intro t v ht;obtain ⟨_,h2⟩:=look_argE ht;simp at h2
  have hl:t < args.length:=by
   rcases Ec t args.length with h' | h'
   ·exact h'
   ·simp [List.getElem?_eq_none h'] at h2
  rw [A3 hl] at h2;simpa [Array.getElem?_append,hl] using h2
end Go.Dc
namespace Go.Dc
open Go
def Tq:Value→Bool
 | .agg _ | .tuple _=>false
 | _=>true
class Rep (α:Type) where
 n:Nat
 rep:Gh→α→List Value→Prop
 len:∀ {g:Gh} {x:α} {cs:List Value},rep g x cs→cs.length=n
 mono:∀ {g g':Gh} {x:α} {cs:List Value},Le g g'→rep g x cs→rep g' x cs
 one:∀ {g:Gh} {x:α} {cs:List Value},rep g x cs→∀ v∈cs,Tq v=true
instance:Rep Int where
 one:=fun h v hv=>by rw [h] at hv;simp at hv;rw [hv];rfl
 n:=1
 rep:=fun _ x cs=>cs=[.int .i64 x]
 len:=fun h=>by rw [h];rfl
 mono:=fun _ h=>h
instance:Rep UInt8 where
 one:=fun h v hv=>by rw [h] at hv;simp at hv;rw [hv];rfl
 n:=1
 rep:=fun _ x cs=>cs=[.int .u8 x.toNat]
 len:=fun h=>by rw [h];rfl
 mono:=fun _ h=>h
instance:Rep Bool where
 one:=fun h v hv=>by rw [h] at hv;simp at hv;rw [hv];rfl
 n:=1
 rep:=fun _ x cs=>cs=[.bool x]
 len:=fun h=>by rw [h];rfl
 mono:=fun _ h=>h
instance:Rep ByteArray where
 one:=fun h v hv=>by rw [h] at hv;simp at hv;rw [hv];rfl
 n:=1
 rep:=fun _ x cs=>cs=[.string x]
 len:=fun h=>by rw [h];rfl
 mono:=fun _ h=>h
def RepSl {α:Type} [Rep α] (g:Gh) (l:List α) (v:Value):Prop :=
 (l=[]∧∃ a cap,v=.slice a 0 cap) ∨
 ∃ b off cap c t fz,v=.slice (some ⟨b,off,Option.none⟩) l.length cap∧l.length≤cap∧g.snap b=some (.cells c t fz)∧off+l.length * Rep.n α≤c.size ∧
  ∀ i (h:i < l.length),Rep.rep g l[i] ((c.toList.drop (off+i * Rep.n α)).take (Rep.n α))
theorem RepSl.mono {α:Type} [Rep α] {g g':Gh} {l:List α} {v:Value} (hl:Le g g') (h:RepSl g l v):RepSl g' l v:=by
 rcases h with h | ⟨b,off,cap,c,t,fz,h1,h2,h3,h4,h5⟩
 ·exact .inl h
 ·exact .inr ⟨b,off,cap,c,t,fz,h1,h2,hl.snap _ _ h3,h4,fun i hi=>Rep.mono hl (h5 i hi)⟩
theorem RepSl.one {α:Type} [Rep α] {g:Gh} {l:List α} {v:Value} (h:RepSl g l v):Tq v=true:=by
 rcases h with ⟨_,_,_,rfl⟩ | ⟨b,off,cap,c,t,fz,rfl,_⟩ <;> rfl
instance {α:Type} [Rep α]:Rep (List α) where
 one:=fun ⟨v,h,h'⟩ u hu=>by rw [h] at hu;simp at hu;rw [hu];exact h'.one
 n:=1
 rep:=fun g l cs=>∃ v,cs=[v]∧RepSl g l v
 len:=fun ⟨v,h,_⟩=>by rw [h];rfl
 mono:=fun hl ⟨v,h,h'⟩=>⟨v,h,h'.mono hl⟩
theorem rep_list {α:Type} [Rep α] {g:Gh} {l:List α} {cs:List Value} (h:Rep.rep g l cs):∃ v,cs=[v]∧RepSl g l v:=h
theorem V9 {g:Gh} {x:Int} {cs:List Value} (h:Rep.rep g x cs):cs=[.int .i64 x]:=h
theorem W7 {g:Gh} {x:ByteArray} {cs:List Value} (h:Rep.rep g x cs):cs=[.string x]:=h
theorem RepSl.nil {α:Type} [Rep α] (g:Gh):RepSl g ([]:List α) (.slice Option.none 0 0):=.inl ⟨rfl,_,_,rfl⟩
theorem RepSl.len {α:Type} [Rep α] {g:Gh} {l:List α} {v:Value} (h:RepSl g l v):∃ a cap,v=.slice a l.length cap∧l.length≤cap:=by
 rcases h with ⟨rfl,a,cap,rfl⟩ | ⟨b,off,cap,c,t,fz,h1,h2,_⟩
 ·exact ⟨_,_,rfl,Cs _⟩
 ·exact ⟨_,_,h1,h2⟩
def PtrW (w:World) (p:Value) (cs:List Value):Prop :=
 ∃ b off c t fz,p=.pointer (some ⟨b,off,Option.none⟩)∧w.heap[b]? = some (.cells c t fz)∧off+cs.length≤c.size∧(c.toList.drop off).take cs.length=cs
def PtrC (g:Gh) (p:Value) (cs:List Value):Prop :=
 ∃ b off c t fz,p=.pointer (some ⟨b,off,Option.none⟩)∧g.snap b=some (.cells c t fz)∧off+cs.length≤c.size∧(c.toList.drop off).take cs.length=cs
theorem PtrC.at {g:Gh} {p:Value} {cs:List Value} (h:PtrC g p cs) {o:Hl} {w:World} (s:St0 g o w):PtrW w p cs:=by
 obtain ⟨b,off,c,t,fz,h1,h2,h3,h4⟩:=h;exact ⟨b,off,c,t,fz,h1,s.snap _ _ h2,h3,h4⟩
theorem PtrC.mono {g g':Gh} {p:Value} {cs:List Value} (l:Le g g') (h:PtrC g p cs):PtrC g' p cs:=by
 obtain ⟨b,off,c,t,fz,h1,h2,h3,h4⟩:=h;exact ⟨b,off,c,t,fz,h1,l.snap _ _ h2,h3,h4⟩
def OwnS {α:Type} [Rep α] (g:Gh) (l:List α) (v:Value) (c:Hl):Prop :=
 (v=.slice Option.none 0 0∧l=[]∧c=[]) ∨
 ∃ b cap arr t,v=.slice (some ⟨b,0,Option.none⟩) l.length cap∧c=[(b,.cells arr t (0,0))]∧l.length≤cap∧arr.size=cap * Rep.n α ∧
  ∀ i (h:i < l.length),Rep.rep g l[i] ((arr.toList.drop (i * Rep.n α)).take (Rep.n α))
theorem OwnS.mono {α:Type} [Rep α] {g g':Gh} {l:List α} {v:Value} {c:Hl} (hl:Le g g') (h:OwnS g l v c):OwnS g' l v c:=by
 rcases h with h | ⟨b,cap,arr,t,h1,h2,h3,h4,h5⟩
 ·exact .inl h
 ·exact .inr ⟨b,cap,arr,t,h1,h2,h3,h4,fun i hi=>Rep.mono hl (h5 i hi)⟩
theorem OwnS.nil {α:Type} [Rep α] (g:Gh):OwnS g ([]:List α) (.slice Option.none 0 0) []:=.inl ⟨rfl,rfl,rfl⟩
theorem OwnS.len {α:Type} [Rep α] {g:Gh} {l:List α} {v:Value} {c:Hl} (h:OwnS g l v c):∃ a cap,v=.slice a l.length cap∧l.length≤cap:=by
 rcases h with ⟨rfl,rfl,_⟩ | ⟨b,cap,arr,t,h1,_,h2,_⟩
 ·exact ⟨_,_,rfl,B7 _⟩
 ·exact ⟨_,_,h1,h2⟩
theorem OwnS.freeze {α:Type} [Rep α] {g:Gh} {l:List α} {v:Value} {c:Hl} {o:Hl} {w:World} (s:St0 g (c++o) w) (h:OwnS g l v c):RepSl (g.add c) l v:=by
 rcases h with ⟨h1,h2,h3⟩ | ⟨b,cap,arr,t,h1,h2,h3,h4,h5⟩
 ·exact .inl ⟨h2,_,_,h1⟩
 ·subst h2;have hs:=Gh.add_snap (p:=(b,.cells arr t (0,0))) s (by simp)
  exact .inr ⟨b,0,cap,arr,t,(0,0),h1,h3,hs,by rw [h4,Gc];exact Aq _ h3,fun i hi=>by
   rw [Gc];exact Rep.mono (Le.add _ _) (h5 i hi)⟩
def Ev (P:Program) (n:Fw) (e:List (Nat×Value)) (C:World→Prop) (op:Op) (v:Value):Prop :=
 ∀ (o:Oper) (a:Act) (w:World),o.op=op→Fr n a e→C w→(execOp a.eval o).run P w=.ok (.value v) w
variable {P : Program} {ρ : Option Nat} {n : Fw} {e : List (Nat × Value)} {C : World → Prop}
theorem semAt_run {f:Operand→Value} {o:Oper} {x:Next} {w w':World} (h:(execOp f o).run P w=.ok x w') (hx:∀ d,x≠.defer d):(o.semAt ρ f).run P w=.ok x w':=by
 cases ρ with
 | none=>exact h
 | some l =>
  rw [Oper.semAt_some]
  ·exact h
  ·intro c hc;simp only [execOp,hc,Sem.run_bind] at h;cases hr:(resolve f c o.type).run P w with
   | ok d w1 =>
    rw [hr] at h;simp only [Result.andThen_ok,Sem.run_pure,Result.ok.injEq] at h;exact hx _ h.1.symm
   | halt e w1=>rw [hr] at h;simp [Result.andThen] at h
theorem Ue {ops:Array Oper} {rest:List Oper} {o:Oper} {Q:Exit→Act→World→Prop} {a:Act} {w w':World} {x:Next}
  (hg:Region.wanted o (yielded ops a.tmps)=true) (hrun:(execOp a.eval o).run P w=.ok x w') (hx:∀ d,x≠.defer d)
  (h:o.uponIn (RW ρ) 0 P a (wpListIn (RW ρ) 0 P ops Q rest) Q (.ok x w')):wpListIn (RW ρ) 0 P ops Q (o::rest) a w:=by
 unfold wpListIn;rw [Ad hg];refine ⟨fun _ _=>trivial,?_⟩;rw [show (RW ρ).round=ρ from rfl,semAt_run hrun hx];exact h
theorem wl_ev {ops:Array Oper} {rest:List Oper} {o:Oper} {Q:Exit→Act→World→Prop} {a:Act} {w:World} {v:Value} {d:Nat}
  (hg:Region.wanted o (yielded ops a.tmps)=true) (hev:Ev P n e C o.op v) (F:Fr n a e) (hC:C w) (hd:o.dst=some d) (hn:Nat.blt d n.sz=true)
  (k:∀ a',Fr n a' ((d,v)::e)→wpListIn (RW ρ) 0 P ops Q rest a' w):wpListIn (RW ρ) 0 P ops Q (o::rest) a w:=by
 refine Ue hg (hev o a w rfl F hC) (by intro d;simp) ?_
 simp only [Oper.uponIn,hd];exact k _ (F.put hn)
theorem wanted_of {ops:Array Oper} {o:Oper} {a:Act} {j t:Nat} {want b:Bool} (F:Fr n a e) (hg:o.guard=some (j,want)) (hj:(ops[j]?).bind (·.dst)=some t) (ht:Nat.blt t n.sz=true) (hb:Kf e t=some (.bool b)) :
  Region.wanted o (yielded ops a.tmps)=(b == want):=by
 have h1:=F.get t _ hb;have ht':t < a.tmps.size:=by rw [F.sz];simpa using ht
 have h2:a.tmps[t]? = some (.bool b):=by
  rw [Array.getElem?_eq_getElem ht'];simpa [Array.getD,ht'] using h1
 simp only [Region.wanted,hg,yielded,hj,Aa,h2];cases b <;> cases want <;> rfl
theorem wn {ops:Array Oper} {o:Oper} {a:Act} (hg:o.guard=Option.none):Region.wanted o (yielded ops a.tmps)=true:=by simp [Region.wanted,hg]
theorem wg {ops:Array Oper} {o:Oper} {a:Act} {j t:Nat} {want b:Bool} (F:Fr n a e) (hg:o.guard=some (j,want)) (hj:(ops[j]?).bind (·.dst)=some t) (ht:Nat.blt t n.sz=true) (hb:Kf e t=some (.bool b)) (hbw:b=want) :
  Region.wanted o (yielded ops a.tmps)=true:=by rw [wanted_of F hg hj ht hb,hbw];simp
theorem wl_skip {ops:Array Oper} {rest:List Oper} {o:Oper} {Q:Exit→Act→World→Prop} {a:Act} {w:World} {d j t:Nat} {want b:Bool}
  (hg:o.guard=some (j,want)) (hj:(ops[j]?).bind (·.dst)=some t) (ht:Nat.blt t n.sz=true) (hb:Kf e t=some (.bool b)) (hne:(b == want)=false)
  (F:Fr n a e) (hd:o.dst=some d) (hn:Nat.blt d n.sz=true)
  (k:∀ a',Fr n a' ((d,undef)::e)→wpListIn (RW ρ) 0 P ops Q rest a' w):wpListIn (RW ρ) 0 P ops Q (o::rest) a w:=by
 unfold wpListIn;rw [Ac (by rw [wanted_of F hg hj ht hb,hne];simp)]
 rw [hd];exact ⟨fun _ _=>trivial,k _ (F.put hn)⟩
theorem wanted_undef {ops:Array Oper} {o:Oper} {a:Act} {j t:Nat} {want:Bool} (F:Fr n a e) (hg:o.guard=some (j,want)) (hj:(ops[j]?).bind (·.dst)=some t) (ht:Nat.blt t n.sz=true) (hb:Kf e t=some undef) :
  Region.wanted o (yielded ops a.tmps)=false:=by
 have h1:=F.get t _ hb;have ht':t < a.tmps.size:=by rw [F.sz];simpa using ht
 have h2:a.tmps[t]? = some undef:=by
  rw [Array.getElem?_eq_getElem ht'];simpa [Array.getD,ht'] using h1
 simp only [Region.wanted,hg,yielded,hj,Aa,h2];cases want <;> rfl
theorem wl_skipu {ops:Array Oper} {rest:List Oper} {o:Oper} {Q:Exit→Act→World→Prop} {a:Act} {w:World} {d j t:Nat} {want:Bool}
  (hg:o.guard=some (j,want)) (hj:(ops[j]?).bind (·.dst)=some t) (ht:Nat.blt t n.sz=true) (hb:Kf e t=some undef)
  (F:Fr n a e) (hd:o.dst=some d) (hn:Nat.blt d n.sz=true)
  (k:∀ a',Fr n a' ((d,undef)::e)→wpListIn (RW ρ) 0 P ops Q rest a' w):wpListIn (RW ρ) 0 P ops Q (o::rest) a w:=by
 unfold wpListIn;rw [Ac (by rw [wanted_undef F hg hj ht hb];simp)]
 rw [hd];exact ⟨fun _ _=>trivial,k _ (F.put hn)⟩
theorem Bj {x:Operand} {v:Value} (h:Bn e x=some v):Ev P n e C (.move x) v:=by
 intro o a w ho F _;simp [execOp,ho,F.eval h]
theorem K4 {x:Operand} {v:Value} (h:Bn e x=some v):Ev P n e C (.assign x) v:=by
 intro o a w ho F _;simp [execOp,ho,F.eval h]
theorem ev_pick {c x y:Operand} {b:Bool} {v v':Value} (hc:Bn e c=some (.bool b)) (h:Bn e (bif b then x else y)=some v) (hv:v=v'):Ev P n e C (.pick c x y) v':=by
 intro o a w ho F _;subst hv;cases b
 ·simp [execOp,ho,F.eval hc,F.eval (x:=y) h,asBool]
 ·simp [execOp,ho,F.eval hc,F.eval (x:=x) h,asBool]
theorem B3 {op:BinOp} {T U:TypeId} {x y:Operand} {k:IntKind} {p q:Int} {v:Value} (hx:Bn e x=some (.int k p)) (hy:Bn e y=some (.int k q))
  (hop:∀ w,(binOp op T (.int k p) (.int k q)).run P w=.ok v w):Ev P n e C (.binOp op T x y U) v:=by
 intro o a w ho F _;simp [execOp,ho,F.eval hx,F.eval hy,eqGuard,hop]
theorem M4 (T:TypeId) (k:IntKind) (p q:Int) (w:World):(binOp .lss T (.int k p) (.int k q)).run P w=.ok (.bool (decide (p < q))) w:=by simp [binOp,Op.intCmp]
theorem bo_leq (T:TypeId) (k:IntKind) (p q:Int) (w:World):(binOp .leq T (.int k p) (.int k q)).run P w=.ok (.bool (decide (p≤q))) w:=by simp [binOp,Op.intCmp]
theorem bo_gtr (T:TypeId) (k:IntKind) (p q:Int) (w:World):(binOp .gtr T (.int k p) (.int k q)).run P w=.ok (.bool (decide (p > q))) w:=by simp [binOp,Op.intCmp]
theorem bo_geq (T:TypeId) (k:IntKind) (p q:Int) (w:World):(binOp .geq T (.int k p) (.int k q)).run P w=.ok (.bool (decide (p ≥ q))) w:=by simp [binOp,Op.intCmp]
theorem L6 (T:TypeId) (k:IntKind) (p q:Int) (w:World):(binOp .eql T (.int k p) (.int k q)).run P w=.ok (.bool (decide (p=q))) w:=by
 simp [binOp,Op.intCmp];rfl
theorem bo_neq (T:TypeId) (k:IntKind) (p q:Int) (w:World):(binOp .neq T (.int k p) (.int k q)).run P w=.ok (.bool (!decide (p=q))) w:=by
 simp [binOp,Op.intCmp];rfl
def inK (k:IntKind) (x:Int):Bool:=decide (k.wrap x=x)
def ckK (k:IntKind) (x:Int):Option Int:=if inK k x then some x else Option.none
theorem ckK_some {k:IntKind} {x y:Int} (h:ckK k x=some y):k.wrap x=x∧y=x:=by
 unfold ckK inK at h;split at h
 ·rename_i hh;exact ⟨Lr hh,by cases h;rfl⟩
 ·cases h
theorem He {T:TypeId} {k:IntKind} {p q r:Int} (h:ckK k (p+q)=some r) (w:World):(binOp .add T (.int k p) (.int k q)).run P w=.ok (.int k r) w:=by
 obtain ⟨h1,rfl⟩:=ckK_some h;simp [binOp,Op.intArith,h1]
theorem N6 {T:TypeId} {k:IntKind} {p q r:Int} (h:ckK k (p - q)=some r) (w:World):(binOp .sub T (.int k p) (.int k q)).run P w=.ok (.int k r) w:=by
 obtain ⟨h1,rfl⟩:=ckK_some h;simp [binOp,Op.intArith,h1]
theorem bo_mul {T:TypeId} {k:IntKind} {p q r:Int} (h:ckK k (p * q)=some r) (w:World):(binOp .mul T (.int k p) (.int k q)).run P w=.ok (.int k r) w:=by
 obtain ⟨h1,rfl⟩:=ckK_some h;simp [binOp,Op.intArith,h1]
def quo? (k:IntKind) (x y:Int):Option Int:=if y=0 then Option.none else ckK k (x.tdiv y)
def rem? (x y:Int):Option Int:=if y=0 then Option.none else some (x.tmod y)
theorem bo_quo {T:TypeId} {k:IntKind} {p q r:Int} (h:quo? k p q=some r) (w:World):(binOp .quo T (.int k p) (.int k q)).run P w=.ok (.int k r) w:=by
 unfold quo? at h;split at h
 ·cases h
 ·rename_i hq
  obtain ⟨h1,rfl⟩:=ckK_some h;simp [binOp,Op.intDiv,hq,h1]
theorem bo_rem {T:TypeId} {k:IntKind} {p q r:Int} (h:rem? p q=some r) (w:World):(binOp .rem T (.int k p) (.int k q)).run P w=.ok (.int k r) w:=by
 unfold rem? at h;split at h
 ·cases h
 ·rename_i hq
  cases h;simp [binOp,Op.intDiv,hq]
theorem Yp {op:BinOp} {T U:TypeId} {x y:Operand} {p q:ByteArray} {v:Value} (hx:Bn e x=some (.string p)) (hy:Bn e y=some (.string q))
  (hop:∀ w,(binOp op T (.string p) (.string q)).run P w=.ok v w):Ev P n e C (.binOp op T x y U) v:=by
 intro o a w ho F _
 have:(eqGuard op T x y (.string p) (.string q)).run P w=.ok () w:=by
  cases op <;> simp [eqGuard]
 simp [execOp,ho,F.eval hx,F.eval hy,this,hop]
theorem Zi (a:ByteArray):a.toList=a.data.toList:=ByteArray.toList_eq a
theorem str_ext {a b:ByteArray}:a.toList=b.toList↔a=b:=by
 rw [Zi,Zi];obtain ⟨⟨x⟩⟩:=a;obtain ⟨⟨y⟩⟩:=b;simp
def sLt (a b:ByteArray):Bool:=Op.bytesLess a.toList b.toList
theorem Zo (T:TypeId) (p q:ByteArray) (w:World):(binOp .eql T (.string p) (.string q)).run P w=.ok (.bool (decide (p=q))) w:=by
 have:(p.toList == q.toList)=decide (p=q):=by rw [Kr];simp [str_ext]
 simp [binOp,Op.stringOp,this]
theorem bs_neq (T:TypeId) (p q:ByteArray) (w:World):(binOp .neq T (.string p) (.string q)).run P w=.ok (.bool (!decide (p=q))) w:=by
 have:(p.toList == q.toList)=decide (p=q):=by rw [Kr];simp [str_ext]
 simp [binOp,Op.stringOp,this]
theorem bs_lss (T:TypeId) (p q:ByteArray) (w:World):(binOp .lss T (.string p) (.string q)).run P w=.ok (.bool (sLt p q)) w:=by
 simp [binOp,Op.stringOp,sLt]
theorem bs_leq (T:TypeId) (p q:ByteArray) (w:World):(binOp .leq T (.string p) (.string q)).run P w=.ok (.bool (sLt p q || decide (p=q))) w:=by
 have:(p.toList == q.toList)=decide (p=q):=by rw [Kr];simp [str_ext]
 simp [binOp,Op.stringOp,sLt,this]
theorem bs_gtr (T:TypeId) (p q:ByteArray) (w:World):(binOp .gtr T (.string p) (.string q)).run P w=.ok (.bool (!(sLt p q || decide (p=q)))) w:=by
 have:(p.toList == q.toList)=decide (p=q):=by rw [Kr];simp [str_ext]
 simp [binOp,Op.stringOp,sLt,this]
theorem bs_geq (T:TypeId) (p q:ByteArray) (w:World):(binOp .geq T (.string p) (.string q)).run P w=.ok (.bool (!sLt p q)) w:=by
 simp [binOp,Op.stringOp,sLt]
def cat? (p q:ByteArray):Option ByteArray:=if p.size+q.size≤9223372036854775807 then some (p++q) else Option.none
theorem bs_add {T:TypeId} {p q r:ByteArray} (h:cat? p q=some r) (w:World):(binOp .add T (.string p) (.string q)).run P w=.ok (.string r) w:=by
 unfold cat? at h;split at h
 ·rename_i hh
  cases h;have:¬ (((p.size+q.size:Nat):Int) > IntKind.i64.max):=by simp [IntKind.max,IntKind.bits,IntKind.signed];omega
  simp only [binOp,Op.stringOp,Ac this,Sem.run_pure]
 ·cases h
theorem Vm {T:TypeId} {x:Operand} {b:Bool} (hx:Bn e x=some (.bool b)):Ev P n e C (.unOp .not T x) (.bool (!b)):=by
 intro o a w ho F _;simp [execOp,ho,F.eval hx,Op.unary]
theorem ev_neg {T:TypeId} {x:Operand} {k:IntKind} {p r:Int} (hx:Bn e x=some (.int k p)) (h:ckK k (0 - p)=some r):Ev P n e C (.unOp .neg T x) (.int k r):=by
 intro o a w ho F _;obtain ⟨h1,rfl⟩:=ckK_some h;have h1':k.wrap (0 - p)=0 - p:=h1;simp only [execOp,ho,F.eval hx,Op.unary,Op.intArith,h1'];simp
theorem Zj {T E:TypeId} {x:Operand} {a:Option Addr} {m c:Nat} (hx:Bn e x=some (.slice a m c)) (hT:P.underlying T=some (.slice E)) :
  Ev P n e C (.call { callee:=.builtin .len,args:=#[x],argTypes:=#[T] }) (.int .i64 m):=by
 intro o ac w ho F _;simp [execOp,ho,F.eval hx,resolve,invoke,builtin,Builtin.len_,run_underlying hT,goInt]
theorem Uy {T:TypeId} {x:Operand} {s:ByteArray} (hx:Bn e x=some (.string s)) (hT:P.underlying T=some .string) :
  Ev P n e C (.call { callee:=.builtin .len,args:=#[x],argTypes:=#[T] }) (.int .i64 s.size):=by
 intro o ac w ho F _;simp [execOp,ho,F.eval hx,resolve,invoke,builtin,Builtin.len_,run_underlying hT,goInt]
theorem ev_max {k:IntKind} {x y:Operand} {A:Array TypeId} {p q:Int} (hx:Bn e x=some (.int k p)) (hy:Bn e y=some (.int k q)) :
  Ev P n e C (.call { callee:=.builtin .max,args:=#[x,y],argTypes:=A }) (.int k (max p q)):=by
 intro o ac w ho F _;have:(if q > p then q else p)=max p q:=by rw [Int.max_def];split <;> split <;> omega
 simp [execOp,ho,F.eval hx,F.eval hy,resolve,invoke,builtin,Builtin.max_,Builtin.max2,this]
theorem ev_min {k:IntKind} {x y:Operand} {A:Array TypeId} {p q:Int} (hx:Bn e x=some (.int k p)) (hy:Bn e y=some (.int k q)) :
  Ev P n e C (.call { callee:=.builtin .min,args:=#[x,y],argTypes:=A }) (.int k (min p q)):=by
 intro o ac w ho F _;have:(if q < p then q else p)=min p q:=by rw [Int.min_def];split <;> split <;> omega
 simp [execOp,ho,F.eval hx,F.eval hy,resolve,invoke,builtin,Builtin.min_,Builtin.min2,this]
theorem H7 {x:Operand} {vs:List Value} {i:Nat} {v:Value} (hx:Bn e x=some (.tuple vs.toArray)) (hi:vs[i]? = some v):Ev P n e C (.extract x i) v:=by
 intro o ac w ho F _;simp [execOp,ho,F.eval hx,Instr.extract,hi]
theorem Lt {x:Operand} {a:Addr} (hx:Bn e x=some (.pointer (some a))):Ev P n e C (.nilCheck x) (.pointer (some a)):=by
 intro o ac w ho F _;simp [execOp,ho,F.eval hx]
theorem ev_nilF {x:Operand} {f:FuncId} {p q:Array Value} (hx:Bn e x=some (.func (.func f) p q)):Ev P n e C (.nilCheck x) (.func (.func f) p q):=by
 intro o ac w ho F _;simp [execOp,ho,F.eval hx]
theorem Hp {T:TypeId} {parts:List (Nat×Operand)} {vs:List (Nat×Value)} {v:Value} (hp:parts.map (fun p=>(p.1,Bn e p.2))=vs.map (fun p=>(p.1,some p.2)))
  (h:∀ w,(Instr.build T vs.toArray).run P w=.ok v w):Ev P n e C (.build T parts.toArray) v:=by
 intro o a w ho F _
 have hm:parts.map (fun (i,x)=>(i,a.eval x))=vs:=by
  clear h ho
  induction parts generalizing vs with
  | nil=>cases vs with
   | nil=>rfl
   | cons u r=>simp at hp
  | cons p r ih=>cases vs with
   | nil=>simp at hp
   | cons u s =>
    simp only [Dg,List.cons.injEq,Prod.mk.injEq] at hp;simp only [Dg,List.cons.injEq];exact ⟨Prod.ext hp.1.1 (F.eval hp.1.2),ih hp.2⟩
 have h':=h w;simp [execOp,ho,hm,h']
end Go.Dc
namespace Go.Dc
open Go
variable {P : Program} {ρ : Option Nat} {n : Fw} {e : List (Nat × Value)} {C : World → Prop}
theorem Qd (b o k:Nat):(⟨b,o,Option.none⟩:Addr).add k=⟨b,o+k,Option.none⟩:=by
 unfold Addr.add;split
 ·rename_i h;subst h;rfl
 ·rfl
theorem E8 {T m:Nat} (h:(P.info? T).map (·.size)=some m) (w:World):(sizeOf T).run P w=.ok m w:=by
 cases hi:P.info? T with
 | none=>rw [hi] at h;cases h
 | some i=>rw [hi] at h;simp at h;simp [sizeOf,typeInfo,hi,h]
theorem run_zero' {T:Nat} {z:Value} (h:(P.info? T).bind (·.zero)=some z) (w:World):(zeroValue T).run P w=.ok z w:=by
 cases hi:P.info? T with
 | none=>rw [hi] at h;cases h
 | some i=>rw [hi] at h;simp at h;simp [zeroValue,typeInfo,hi,h]
def W9:TypeDesc→Bool
 | .struct _ | .array _ _=>true
 | _=>false
theorem Q0 {T:Nat} {d:TypeDesc} (h:P.underlying T=some d) (w:World):(isAgg T).run P w=.ok (W9 d) w:=by
 cases d <;> simp [isAgg,run_underlying h,W9]
theorem cell_at {w:World} {b off:Nat} {c:Array Value} {t:TypeId} {fz:Nat×Nat} (h:w.heap[b]? = some (.cells c t fz)):w.cell? ⟨b,off,Option.none⟩=c[off]?:=by
 simp [World.cell?,h]
theorem X7 {w:World} {p:Value} {cs:List Value} (h:PtrW w p cs):∃ b off,p=.pointer (some ⟨b,off,Option.none⟩)∧∀ i v,cs[i]? = some v→w.cell? ⟨b,off+i,Option.none⟩=some v:=by
 obtain ⟨b,off,c,t,fz,h1,h2,h3,h4⟩:=h;refine ⟨b,off,h1,fun i v hi=>?_⟩;rw [cell_at h2]
 have hl:i < cs.length:=by
  rcases Ec i cs.length with h' | h'
  ·exact h'
  ·simp [List.getElem?_eq_none h'] at hi
 have:((c.toList.drop off).take cs.length)[i]? = some v:=by rw [h4];exact hi
 rw [List.getElem?_take,Ad hl,List.getElem?_drop] at this;simpa using this
theorem run_load' {w:World} {a:Addr} {v:Value} (h:w.cell? a=some v):(load a).run P w=.ok v w:=by
 simp [load,Sem.run,h]
theorem V3 {w:World} {b off:Nat} {cs:List Value} (h:∀ i v,cs[i]? = some v→w.cell? ⟨b,off+i,Option.none⟩=some v) :
  (loadCells ⟨b,off,Option.none⟩ cs.length).run P w=.ok cs.toArray w:=by
 have key:∀ (m i:Nat) (acc:Array Value),i+m=cs.length→acc=(cs.take i).toArray→(loadCellsFrom ⟨b,off,Option.none⟩ i m acc).run P w=.ok cs.toArray w:=by
  intro m
  induction m with
  | zero =>
   intro i acc hi ha;have:i=cs.length:=by omega
   subst this;simp [loadCellsFrom,ha]
  | succ m ih =>
   intro i acc hi ha;have hl:i < cs.length:=by omega
   have hv:cs[i]? = some cs[i]:=A3 hl;simp only [loadCellsFrom,Qd,Sem.run_bind,run_load' (h i _ hv),Result.andThen_ok];refine ih (i+1) _ (by omega) ?_
   rw [ha,As hl];simp
 exact key cs.length 0 #[] (by omega) (by simp)
theorem Gs {T:TypeId} {d:TypeDesc} {x:Operand} {p v:Value} (hT:P.underlying T=some d) (hd:W9 d=false) (hx:Bn e x=some p) (hp:∀ w,C w→PtrW w p [v]):Ev P n e C (.load T x) v:=by
 intro o a w ho F hC;obtain ⟨b,off,rfl,hc⟩:=X7 (hp w hC);have:=hc 0 v rfl;simp only [Eg] at this;have hl:=run_load' (P:=P) this;simp only [execOp,ho,F.eval hx,Instr.loadAt,Instr.sureAddr,loadVar,Sem.run_bind,Sem.run_pure,Result.andThen_ok,Q0 hT,hd,A6,Cg,hl]
theorem Lg {T:TypeId} {d:TypeDesc} {x:Operand} {p:Value} {cs:List Value} (hT:P.underlying T=some d) (hd:W9 d=true) (hs:(P.info? T).map (·.size)=some cs.length) (hx:Bn e x=some p) (hp:∀ w,C w→PtrW w p cs) :
  Ev P n e C (.load T x) (.agg cs.toArray):=by
 intro o a w ho F hC;obtain ⟨b,off,rfl,hc⟩:=X7 (hp w hC);simp [execOp,ho,F.eval hx,Instr.loadAt,Instr.sureAddr,loadVar,Q0 hT,hd,E8 hs,V3 hc]
def N8:Value→Nat→Value
 | .pointer (some a),k=>.pointer (some (a.add k))
 | v,_=>v
theorem take_drop_take {l cs:List Value} {k m:Nat} (h:(l.take cs.length)=cs) (hk:k+m≤cs.length):(l.drop k).take ((cs.drop k).take m).length=(cs.drop k).take m:=by
 have:((cs.drop k).take m).length=m:=by simp;omega
 rw [this]
 conv=>rhs;rw [← h]
 rw [List.drop_take,List.take_take];congr 1;omega
theorem PtrW.field {w:World} {p:Value} {cs:List Value} (h:PtrW w p cs) (k m:Nat) (hk:k+m≤cs.length):PtrW w (N8 p k) ((cs.drop k).take m):=by
 obtain ⟨b,off,c,t,fz,rfl,h2,h3,h4⟩:=h;refine ⟨b,off+k,c,t,fz,by simp [N8,Qd],h2,by simp;omega,?_⟩
 rw [← Gu];exact take_drop_take h4 hk
theorem PtrC.field {g:Gh} {p:Value} {cs:List Value} (h:PtrC g p cs) (k m:Nat) (hk:k+m≤cs.length):PtrC g (N8 p k) ((cs.drop k).take m):=by
 obtain ⟨b,off,c,t,fz,rfl,h2,h3,h4⟩:=h;refine ⟨b,off+k,c,t,fz,by simp [N8,Qd],h2,by simp;omega,?_⟩
 rw [← Gu];exact take_drop_take h4 hk
theorem St.box {g:Gh} {cs:List Hl} {fr:Hl} {b:Nat} {l:List Value} {t:TypeId} {fz:Nat×Nat} (k:Nat) (hk:cs[k]? = some [(b,.cells l.toArray t fz)]) (off m:Nat) (hm:off+m≤l.length) :
  ∀ w,St g cs fr w→PtrW w (.pointer (some ⟨b,off,Option.none⟩)) ((l.drop off).take m):=by
 intro w h;refine ⟨b,off,l.toArray,t,fz,rfl,h.heap k hk,by simp;omega,?_⟩
 have:((l.drop off).take m).length=m:=by simp;omega
 rw [this]
theorem ev_fieldAddr {T:TypeId} {fs:Array Field} {x:Operand} {p:Value} {i k z:Nat} {ft:TypeId} (hT:P.underlying T=some (.struct fs)) (hf:(fs[i]?).map (fun f=>(f.offset,f.type))=some (k,ft))
  (hz:(P.info? ft).map (·.size)=some (z+1)) (hx:Bn e x=some p) (hp:∃ a,p=.pointer (some a)):Ev P n e C (.fieldAddr T x i) (N8 p k):=by
 intro o a w ho F _;obtain ⟨ad,rfl⟩:=hp;cases hfi:fs[i]? with
 | none=>rw [hfi] at hf;cases hf
 | some f =>
  rw [hfi] at hf;simp at hf;obtain ⟨rfl,rfl⟩:=hf;simp [execOp,ho,F.eval hx,Instr.fieldAt,Instr.sureAddr,run_underlying hT,hfi,fieldPlace,E8 hz,N8]
theorem PtrC.ptr {g:Gh} {p:Value} {cs:List Value} (h:PtrC g p cs):∃ a,p=.pointer (some a):=by
 obtain ⟨b,off,c,t,fz,h1,_⟩:=h;exact ⟨_,h1⟩
theorem ev_field1 {T:TypeId} {fs:Array Field} {x:Operand} {cs:List Value} {i k:Nat} {ft:TypeId} {d:TypeDesc} {v:Value} (hT:P.underlying T=some (.struct fs)) (hf:(fs[i]?).map (fun f=>(f.offset,f.type))=some (k,ft))
  (hft:P.underlying ft=some d) (hd:W9 d=false) (hx:Bn e x=some (.agg cs.toArray)) (hv:cs[k]? = some v):Ev P n e C (.field T x i) v:=by
 intro o a w ho F _;cases hfi:fs[i]? with
 | none=>rw [hfi] at hf;cases hf
 | some f =>
  rw [hfi] at hf;simp at hf;obtain ⟨rfl,rfl⟩:=hf;simp [execOp,ho,F.eval hx,Instr.field,run_underlying hT,hfi,asAgg,part,Q0 hft,hd,hv]
def at? {α:Type} (l:List α) (i:Int):Option α:=if 0≤i then l[i.toNat]? else Option.none
theorem Mk {α:Type} {l:List α} {i:Int} {x:α} (h:at? l i=some x):0≤i∧∃ hi:i.toNat < l.length,l[i.toNat]=x:=by
 unfold at? at h;split at h
 ·rename_i h0
  refine ⟨h0,?_⟩;rcases Ec i.toNat l.length with h' | h'
  ·exact ⟨h',by rw [A3 h'] at h;simpa using h⟩
  ·simp [List.getElem?_eq_none h'] at h
 ·cases h
theorem Aau {T E:TypeId} {ad:Addr} {len cap z:Nat} {i:Int} {k:IntKind} (hT:P.underlying T=some (.slice E)) (hz:(P.info? E).map (·.size)=some z) (h0:0≤i) (h1:i < len) (w:World) :
  (Instr.indexAt T (.slice (some ad) len cap) (.int k i)).run P w=.ok (.pointer (some (ad.add (i.toNat * z)))) w:=by
 simp [Instr.indexAt,asIntOf,run_underlying hT,h0,h1,E8 hz]
theorem idx_own {α:Type} [Rep α] {g:Gh} {l:List α} {v:Value} {c:Hl} {i:Int} {x:α} (hr:OwnS g l v c) (hi:at? l i=some x) :
  ∃ b arr t cs,c=[(b,.cells arr t (0,0))]∧Rep.rep g x cs∧cs=(arr.toList.drop (i.toNat * Rep.n α)).take (Rep.n α)∧i.toNat * Rep.n α+Rep.n α≤arr.size ∧
  (∀ w (cks:List Hl) (fr:Hl) (k:Nat),cks[k]? = some c→St g cks fr w→PtrW w (.pointer (some ⟨b,i.toNat * Rep.n α,Option.none⟩)) cs) ∧
  (∀ (P:Program) (n:Fw) (e:List (Nat×Value)) (C:World→Prop) (T E:TypeId) (xo io:Operand) (k:IntKind),P.underlying T=some (.slice E)→(P.info? E).map (·.size)=some (Rep.n α) →
   Bn e xo=some v→Bn e io=some (.int k i)→Ev P n e C (.indexAddr T xo io) (.pointer (some ⟨b,i.toNat * Rep.n α,Option.none⟩))) ∧
  ∀ (y:α) (cs':List Value),Rep.rep g y cs'→∀ arr':Array Value,arr'.size=arr.size→arr'.toList=arr.toList.take (i.toNat * Rep.n α)++cs'++arr.toList.drop (i.toNat * Rep.n α+Rep.n α) →
   OwnS g (l.set i.toNat y) v [(b,.cells arr' t (0,0))]:=by
 obtain ⟨h0,hlt,hx⟩:=Mk hi;rcases hr with ⟨rfl,rfl,_⟩ | ⟨b,cap,arr,t,rfl,hc,h2,h3,h5⟩
 ·simp at hlt
 ·have hrep:=h5 i.toNat hlt;rw [hx] at hrep
  have hle:i.toNat * Rep.n α+Rep.n α≤arr.size:=by
   have:(i.toNat+1) * Rep.n α≤cap * Rep.n α:=Aq _ (by omega)
   rw [B8,Nat.one_mul] at this;omega
  have hlen:=Rep.len hrep;refine ⟨b,arr,t,_,hc,hrep,rfl,hle,?_,?_,?_⟩
  ·intro w cks fr k hk s;subst hc;exact ⟨b,_,arr,t,(0,0),rfl,s.heap k hk,by rw [hlen];exact hle,by rw [hlen]⟩
  ·intro P n e C T E xo io k hT hz hxo hio o a w ho F _;have h1:i < (l.length:Int):=by omega
   simp [execOp,ho,F.eval hxo,F.eval hio,Aau hT hz h0 h1,Qd]
  ·intro y cs' hy arr' hs' ha';refine .inr ⟨b,cap,arr',t,by simp,rfl,by simpa using h2,by rw [hs',h3],?_⟩
   intro j hj;have hj':j < l.length:=by simpa using hj
   have hcl:=Rep.len hy;rw [ha'];by_cases hji:j=i.toNat
   ·subst hji;simp only [List.getElem_set_self];rw [Am,List.drop_append_of_le_length (by simp;omega),D8 (by simp;omega),A8,Cm (by omega),Cn (by omega)]
    exact hy
   ·rw [List.getElem_set_ne (Ne.symm hji)];have hold:=h5 j hj';have hol:=Rep.len hold;rcases Nat.lt_or_gt_of_ne hji with hlt' | hgt
    ·
     have hle2:j * Rep.n α+Rep.n α≤i.toNat * Rep.n α:=by
      have:(j+1) * Rep.n α≤i.toNat * Rep.n α:=Aq _ hlt';rw [B8,Nat.one_mul] at this;exact this
     have:(List.take (i.toNat * Rep.n α) arr.toList++cs'++List.drop (i.toNat * Rep.n α+Rep.n α) arr.toList).drop (j * Rep.n α) =
       ((arr.toList.take (i.toNat * Rep.n α)).drop (j * Rep.n α))++(cs'++List.drop (i.toNat * Rep.n α+Rep.n α) arr.toList):=by
      rw [Am,List.drop_append_of_le_length (by simp;omega)]
     rw [this,Cm (by simp;omega),List.drop_take,List.take_take,Nat.min_eq_left (by omega)]
     exact hold
    ·
     have hge2:i.toNat * Rep.n α+Rep.n α≤j * Rep.n α:=by
      have:(i.toNat+1) * Rep.n α≤j * Rep.n α:=Aq _ hgt;rw [B8,Nat.one_mul] at this;exact this
     have hl1:(List.take (i.toNat * Rep.n α) arr.toList++cs').length=i.toNat * Rep.n α+Rep.n α:=by simp;omega
     have:(List.take (i.toNat * Rep.n α) arr.toList++cs'++List.drop (i.toNat * Rep.n α+Rep.n α) arr.toList).drop (j * Rep.n α)=arr.toList.drop (j * Rep.n α):=by
      rw [List.drop_append,D8 (by omega),A8,hl1,Gu]
      congr 1;omega
     rw [this];exact hold
def spl (c:Array Value) (off:Nat) (vs:List Value):Array Value:=(c.toList.take off++vs++c.toList.drop (off+vs.length)).toArray
theorem Xa {c:Array Value} {off:Nat} {vs:List Value} (h:off+vs.length≤c.size):(spl c off vs).size=c.size:=by
 simp [spl];omega
theorem Qi {w:World} {b:Nat} {c:Array Value} {t:TypeId} {vs:List Value} (off i:Nat) (hb:w.heap[b]? = some (.cells c t (0,0))) (hl:off+i+vs.length≤c.size) (h1:∀ v∈vs,Tq v=true) :
  ∃ w',(storeCells ⟨b,off,Option.none⟩ vs i).run P w=.ok () w'∧w'.heap[b]? = some (.cells (spl c (off+i) vs) t (0,0))∧(∀ d,d≠b→w'.heap[d]? = w.heap[d]?)∧w'.heap.size=w.heap.size∧w'.os=w.os∧w'.output=w.output∧w'.tape=w.tape∧w'.drawn=w.drawn:=by
 induction vs generalizing w c i with
 | nil=>exact ⟨w,by simp [storeCells],by rw [hb];simp [spl],fun _ _=>rfl,rfl,rfl,rfl,rfl,rfl⟩
 | cons v r ih =>
  simp only [Eb] at hl;have hcell:w.cell? ⟨b,off+i,Option.none⟩=some (c[off+i]'(by omega)):=by rw [cell_at hb,Array.getElem?_eq_getElem (by omega)]
  have hfz:w.frozen? ⟨b,off+i,Option.none⟩=false:=by simp [World.frozen?,hb]
  have hone:=h1 v (by simp)
  have hst:(store ⟨b,off+i,Option.none⟩ v).run P w=.ok () (w.setCell ⟨b,off+i,Option.none⟩ v):=by
   cases v <;> simp [Tq] at hone <;> simp [store,Sem.run,hcell,hfz]
  have hb2:(w.setCell ⟨b,off+i,Option.none⟩ v).heap[b]? = some (.cells (c.setIfInBounds (off+i) v) t (0,0)):=by
   simp [World.setCell,Array.getElem?_modify,hb]
  obtain ⟨w',e1,e2,e3,e4,e5,e6,e7,e8⟩:=ih (w:=w.setCell ⟨b,off+i,Option.none⟩ v) (c:=c.setIfInBounds (off+i) v) (i+1) hb2 (by simp;omega) (fun u hu=>h1 u (by simp [hu]))
  refine ⟨w',?_,?_,?_,?_,?_,?_,?_,?_⟩
  ·simp only [storeCells,Qd,Sem.run_bind,hst,Result.andThen_ok];exact e1
  ·rw [e2];congr 2;simp only [spl];congr 1;rw [Array.toList_setIfInBounds];have hlt:off+i < c.toList.length:=by simp;omega
   rw [show off+(i+1)=off+i+1 from by omega,List.take_set,As hlt,List.set_append_right _ _ (by rw [Bl];omega),List.drop_set_of_lt (by omega)]
   have hs:off+i - (List.take (off+i) c.toList).length=0:=by rw [Bl];omega
   rw [hs];simp only [List.set_cons_zero,Eb,Am,List.cons_append,A8];rw [show off+i+1+r.length=off+i+(r.length+1) from by omega]
  ·intro d hd;rw [e3 d hd];simp [World.setCell,Array.getElem?_modify,Ne.symm hd]
  ·rw [e4];simp [World.setCell]
  ·rw [e5];rfl
  ·rw [e6];rfl
  ·rw [e7];rfl
  ·rw [e8];rfl
theorem wl_store {ops:Array Oper} {rest:List Oper} {o:Oper} {Q:Exit→Act→World→Prop} {a:Act} {w:World} {g:Gh} {cks:List Hl} {fr:Hl} {T t:TypeId} {x y:Operand} {b off k:Nat} {v:Value} {c c':Array Value}
  (hg:Region.wanted o (yielded ops a.tmps)=true) (ho:o.op=.store T x y) (F:Fr n a e) (S:St g cks fr w)
  (hx:Bn e x=some (.pointer (some ⟨b,off,Option.none⟩))) (hy:Bn e y=some v) (hz:(P.info? T).map (·.size)=some v.cells.size) (h1:∀ u∈v.cells.toList,Tq u=true)
  (hk:cks[k]? = some [(b,.cells c t (0,0))]) (hl:off+v.cells.size≤c.size) (hc':spl c off v.cells.toList=c') (hd:o.dst=Option.none)
  (K:∀ w',St g (cks.set k [(b,.cells c' t (0,0))]) fr w'→wpListIn (RW ρ) 0 P ops Q rest a w'):wpListIn (RW ρ) 0 P ops Q (o::rest) a w:=by
 have hb:=S.heap k hk;obtain ⟨w',e1,e2,e3,e4,e5,e6,e7,e8⟩:=Qi (P:=P) (w:=w) (b:=b) (c:=c) (t:=t) (vs:=v.cells.toList) off 0 hb (by simpa using hl) h1
 have hrun:(execOp a.eval o).run P w=.ok .skip w':=by
  simp [execOp,ho,F.eval hx,F.eval hy,Instr.storeAt,Instr.sureAddr,storeVar,E8 hz,e1]
 refine Ue hg hrun (by intro d;simp) ?_
 simp only [Oper.uponIn,hd];refine K w' ?_
 have hlt:k < cks.length:=by
  rcases Ec k cks.length with h' | h'
  ·exact h'
  ·simp [List.getElem?_eq_none h'] at hk
 refine St.back k hlt ?_;have:=(S.front k hk).write (w':=w') (y:=.cells c' t (0,0)) (by rw [e2,← hc'];rfl) e3 e5 e6 e7 (Nat.le_of_eq e8.symm)
 exact this
theorem wl_new {ops:Array Oper} {rest:List Oper} {o:Oper} {Q:Exit→Act→World→Prop} {a:Act} {w:World} {g:Gh} {cks:List Hl} {fr:Hl} {T:TypeId} {cs:List Value} {d:Nat}
  (hg:Region.wanted o (yielded ops a.tmps)=true) (hrun:(execOp a.eval o).run P w=.ok (.value (.pointer (some ⟨w.heap.size,0,Option.none⟩))) { w with heap:=w.heap.push (.cells cs.toArray T) }) (F:Fr n a e) (S:St g cks fr w)
  (hd:o.dst=some d) (hn:Nat.blt d n.sz=true)
  (K:∀ b a' w',Fr n a' ((d,.pointer (some ⟨b,0,Option.none⟩))::e)→St g ([(b,.cells cs.toArray T (0,0))]::cks) fr w'→wpListIn (RW ρ) 0 P ops Q rest a' w'):wpListIn (RW ρ) 0 P ops Q (o::rest) a w:=by
 refine Ue hg hrun (by intro d;simp) ?_
 simp only [Oper.uponIn,hd];exact K w.heap.size _ _ (F.put hn) (S.push rfl rfl rfl rfl)
theorem wl_alloc {ops:Array Oper} {rest:List Oper} {o:Oper} {Q:Exit→Act→World→Prop} {a:Act} {w:World} {g:Gh} {cks:List Hl} {fr:Hl} {T:TypeId} {z:Value} {cs:List Value} {d:Nat}
  (hg:Region.wanted o (yielded ops a.tmps)=true) (ho:o.op=.alloc T) (hz:(P.info? T).bind (·.zero)=some z) (hcs:z.cells=cs.toArray) (F:Fr n a e) (S:St g cks fr w)
  (hd:o.dst=some d) (hn:Nat.blt d n.sz=true)
  (K:∀ b a' w',Fr n a' ((d,.pointer (some ⟨b,0,Option.none⟩))::e)→St g ([(b,.cells cs.toArray T (0,0))]::cks) fr w'→wpListIn (RW ρ) 0 P ops Q rest a' w'):wpListIn (RW ρ) 0 P ops Q (o::rest) a w :=
 wl_new hg (by simp [execOp,ho,Instr.alloc,run_zero' hz,newVar,newRow,newObj,Sem.run,hcs]) F S hd hn K
theorem wl_box {ops:Array Oper} {rest:List Oper} {o:Oper} {Q:Exit→Act→World→Prop} {a:Act} {w:World} {g:Gh} {cks:List Hl} {fr:Hl} {T:TypeId} {x:Operand} {v:Value} {cs:List Value} {d:Nat}
  (hg:Region.wanted o (yielded ops a.tmps)=true) (ho:o.op=.box T x) (hx:Bn e x=some v) (hcs:v.cells=cs.toArray) (F:Fr n a e) (S:St g cks fr w)
  (hd:o.dst=some d) (hn:Nat.blt d n.sz=true)
  (K:∀ b a' w',Fr n a' ((d,.pointer (some ⟨b,0,Option.none⟩))::e)→St g ([(b,.cells cs.toArray T (0,0))]::cks) fr w'→wpListIn (RW ρ) 0 P ops Q rest a' w'):wpListIn (RW ρ) 0 P ops Q (o::rest) a w :=
 wl_new hg (by simp [execOp,ho,F.eval hx,Instr.box,newVar,newRow,newObj,Sem.run,hcs]) F S hd hn K
theorem Zn {k:Nat} {f:FuncId} {args:Array Value} {w:World} {R:Ending→World→Prop}:CallsIn (RW ρ) k P f args w R↔Calls P f args w R:=callsIn_wide (n:=k)
theorem wl_call {ops:Array Oper} {rest:List Oper} {o:Oper} {Q:Exit→Act→World→Prop} {a:Act} {w:World} {f:Operand} {fn:FuncId} {cap:List Value} {xs:List Operand} {vs:List Value} {A:Array TypeId} {d:Nat} {R:Value→World→Prop}
  (hg:Region.wanted o (yielded ops a.tmps)=true) (ho:o.op=.call { callee:=.value f,args:=xs.toArray,argTypes:=A }) (F:Fr n a e) (hf:Bn e f=some (.func (.func fn) #[] cap.toArray)) (hxs:xs.map (Bn e)=vs.map some)
  (hent:∀ args w,(callFunc fn args).run P w=.ok (.enter fn args) w) (hc:Calls P fn (vs++cap).toArray w (fun en w'=>∃ v,en=.returned v∧R v w')) (hd:o.dst=some d) (hn:Nat.blt d n.sz=true)
  (K:∀ v a' w',R v w'→Fr n a' ((d,v)::e)→wpListIn (RW ρ) 0 P ops Q rest a' w'):wpListIn (RW ρ) 0 P ops Q (o::rest) a w:=by
 have hm:xs.map a.eval=vs:=by
  clear ho hc
  induction xs generalizing vs with
  | nil=>cases vs with
   | nil=>rfl
   | cons u r=>simp at hxs
  | cons p r ih=>cases vs with
   | nil=>simp at hxs
   | cons u s =>
    simp only [Dg,List.cons.injEq] at hxs ⊢;exact ⟨F.eval hxs.1,ih hxs.2⟩
 have hrun:(execOp a.eval o).run P w=.ok (.enter fn (vs++cap).toArray) w:=by
  simp [execOp,ho,resolve,F.eval hf,Deferred.ofValue,hm,invoke,hent]
 refine Ue hg hrun (by intro d;simp) ?_
 simp only [Oper.uponIn];refine ⟨(fun h=>by cases h),(Zn.2 hc).mono ?_⟩
 rintro en w' ⟨v,rfl,hR⟩;simp only [hd];exact K v _ w' hR (F.put hn)
theorem An {f:FuncId} {fn:Func} {c:Code} {args:List Value} {w:World} {R:Ending→World→Prop} (hf:P.funcs[f]? = some fn) (hb:fn.body=some c) {m:Nat} (hn:fn.ntmps=m) (hl:args.length≤m)
  (h:∀ a,Fr ⟨m,[]⟩ a (argE 0 args)→c.wpIn (RW Option.none) 0 P (bodyPost P fn R) a w):Calls P f args.toArray w R:=by
 refine Zn.1 (callsIn_of_wp (F:=RW Option.none) (n:=0) hf hb trivial ?_);rw [hn];exact h _ (Fr.enter hl)
def ResV (P:Program) (e:List (Nat×Value)) (w:World):ResultVar→Value→Prop
 | .tmp t,v=>Kf e t=some v
 | .cell t T,v=>∃ p,Kf e t=some p∧((∃ d,P.underlying T=some d∧W9 d=false∧PtrW w p [v])∨(∃ d cs,P.underlying T=some d∧W9 d=true∧(P.info? T).map (·.size)=some cs.length∧PtrW w p cs∧v=.agg cs.toArray))
def resM (a:Act) (r:ResultVar):Sem Value :=
 match r with
 | .tmp t=>pure (a.tmps.getD t undef)
 | .cell x t=>do loadVar t (← asAddr (a.tmps.getD x undef))
theorem run_res {a:Act} {w:World} {r:ResultVar} {v:Value} (F:Fr n a e) (h:ResV P e w r v):(resM a r).run P w=.ok v w:=by
 cases r with
 | tmp t=>simp only [ResV] at h;simp only [resM,F.get t v h,Sem.run_pure]
 | cell t T =>
  simp only [ResV] at h;obtain ⟨p,hp,h⟩:=h;have hp':=F.get t p hp;rcases h with ⟨d,h1,h2,h3⟩ | ⟨d,cs,h1,h2,h3,h4,rfl⟩
  ·obtain ⟨b,off,rfl,hc⟩:=X7 h3;have:=hc 0 v rfl;simp only [Eg] at this;simp only [resM,hp',asAddr,Sem.run_bind,Sem.run_pure,Result.andThen_ok,loadVar,Q0 h1,h2,A6,Cg,run_load' this]
  ·obtain ⟨b,off,rfl,hc⟩:=X7 h4;simp only [resM,hp',asAddr,Sem.run_bind,Sem.run_pure,Result.andThen_ok,loadVar,Q0 h1,h2,E4,E8 h3,V3 hc]
def Qx (P:Program) (e:List (Nat×Value)) (w:World):List ResultVar→List Value→Prop
 | [],vs=>vs=[]
 | r::rs,vs=>∃ v us,vs=v::us∧ResV P e w r v∧Qx P e w rs us
theorem run_mapM_res {a:Act} {w:World} (F:Fr n a e):∀ {rs:List ResultVar} {vs:List Value},Qx P e w rs vs→(rs.mapM (resM a)).run P w=.ok vs w
 | [],vs,h=>by simp only [Qx] at h;subst h;simp
 | r::rs,vs,h=>by
  simp only [Qx] at h;obtain ⟨v,us,rfl,h1,h2⟩:=h;rw [List.mapM_cons];simp only [Sem.run_bind,run_res F h1,Result.andThen_ok,run_mapM_res F h2,Sem.run_pure]
def pack:List Value→Value
 | [v]=>v
 | vs=>.tuple vs.toArray
theorem post_ret {fn:Func} {R:Ending→World→Prop} {a:Act} {w:World} {rs:List ResultVar} (vs:List Value) (F:Fr n a e) (hr:fn.results=rs.toArray) (h:Qx P e w rs vs) (hR:R (.returned (pack vs)) w) :
  a.defers=n.df∧∃ v,(results fn a.tmps).run P w=.ok v w∧R (.returned v) w:=by
 refine ⟨F.df,pack vs,?_,hR⟩;have h1:=run_mapM_res F h
 have h2:(fn.results.mapM (resM a)).run P w=.ok vs.toArray w:=by
  rw [hr,List.mapM_toArray];simp only [Sem.run_map,h1,Result.andThen_ok]
 unfold results;show (do let vs ← fn.results.mapM (resM a);pure (if h:vs.size=1 then vs[0] else .tuple vs):Sem Value).run P w=_
 simp only [Sem.run_bind,h2,Result.andThen_ok]
 match vs with
 | []=>simp [pack]
 | [v]=>simp [pack]
 | v::u::r=>simp [pack]
inductive Step (σ ρ:Type) where
 | next (s:σ)
 | done (r:ρ)
def Xl {σ ρ:Type} (m:σ→Option (Step σ ρ)):Nat→σ→Option ρ
 | 0,_=>Option.none
 | k+1,s=>match m s with
  | Option.none=>Option.none
  | some (.next s')=>Xl m k s'
  | some (.done r)=>some r
noncomputable def C7 {σ ρ:Type} (m:σ→Option (Step σ ρ)) (s:σ):Option ρ :=
 open Classical in if h:∃ k r,Xl m k s=some r then some (Classical.choose (Classical.choose_spec h)) else Option.none
theorem iterN_mono {σ ρ:Type} {m:σ→Option (Step σ ρ)} {k:Nat}:∀ {s:σ} {r:ρ},Xl m k s=some r→∀ j,Xl m (k+j) s=some r:=by
 induction k with
 | zero=>intro s r h;cases h
 | succ k ih =>
  intro s r h j;rw [show k+1+j=(k+j)+1 from by omega]
  simp only [Xl] at h ⊢;cases hm:m s with
  | none=>rw [hm] at h;cases h
  | some x =>
   rw [hm] at h;cases x with
   | next s'=>exact ih h j
   | done r'=>exact h
theorem iter_of {σ ρ:Type} {m:σ→Option (Step σ ρ)} {k:Nat} {s:σ} {r:ρ} (h:Xl m k s=some r):C7 m s=some r:=by
 have hx:∃ k r,Xl m k s=some r:=⟨k,r,h⟩;unfold C7;rw [dif_pos hx];have h2:=Classical.choose_spec (Classical.choose_spec hx);have a1:=iterN_mono h (Classical.choose hx);have a2:=iterN_mono h2 k;rw [Nat.add_comm] at a2;rw [a2] at a1;exact a1
theorem iter_some {σ ρ:Type} {m:σ→Option (Step σ ρ)} {s:σ} {r:ρ} (h:C7 m s=some r):∃ k,Xl m k s=some r:=by
 unfold C7 at h;split at h
 ·rename_i hx
  have h2:=Classical.choose_spec (Classical.choose_spec hx);refine ⟨Classical.choose hx,?_⟩;rw [h2];exact h
 ·cases h
theorem iter_eq {σ ρ:Type} (m:σ→Option (Step σ ρ)) (s:σ):C7 m s=match m s with
  | Option.none=>Option.none
  | some (.next s')=>C7 m s'
  | some (.done r)=>some r:=by
 cases hm:m s with
 | none =>
  cases hi:C7 m s with
  | none=>rfl
  | some r =>
   obtain ⟨k,hk⟩:=iter_some hi;cases k with
   | zero=>cases hk
   | succ k=>simp only [Xl,hm] at hk;cases hk
 | some x =>
  cases x with
  | done r=>exact iter_of (k:=1) (by simp [Xl,hm])
  | next s' =>
   show C7 m s=C7 m s';cases hi:C7 m s' with
   | some r =>
    obtain ⟨k,hk⟩:=iter_some hi;exact iter_of (k:=k+1) (by simp [Xl,hm,hk])
   | none =>
    cases hj:C7 m s with
    | none=>rfl
    | some r =>
     obtain ⟨k,hk⟩:=iter_some hj;cases k with
     | zero=>cases hk
     | succ k =>
      simp only [Xl,hm] at hk;rw [iter_of hk] at hi;cases hi
theorem Bz {σ ρ:Type} {m:σ→Option (Step σ ρ)} {s s':σ} (h:m s=some (.next s')):C7 m s=C7 m s':=by rw [iter_eq,h]
theorem Bm {σ ρ:Type} {m:σ→Option (Step σ ρ)} {s:σ} {r:ρ} (h:m s=some (.done r)):C7 m s=some r:=by rw [iter_eq,h]
theorem least_ex {p:Nat→Prop} (h:∃ j,p j):∃ j,p j∧∀ i,p i→j≤i:=by
 obtain ⟨j,hj⟩:=h
 induction j using Nat.strongRecOn with
 | _ j ih =>
  by_cases hx:∃ i,i < j∧p i
  ·obtain ⟨i,hi,hp⟩:=hx;exact ih i hi hp
  ·refine ⟨j,hj,fun i hi=>?_⟩;rcases Ec i j with h | h
   ·exact absurd ⟨i,h,hi⟩ hx
   ·exact h
noncomputable def least (p:Nat→Prop):Nat:=open Classical in if h:∃ j,p j then Classical.choose (least_ex h) else 0
theorem least_spec {p:Nat→Prop} (h:∃ j,p j):p (least p)∧∀ i,p i→least p≤i:=by
 unfold least;rw [dif_pos h];exact Classical.choose_spec (least_ex h)
theorem wp_iter {τ:Option Nat} {σ ρ:Type} {m:σ→Option (Step σ ρ)} {s:σ} {r:ρ} {c:Code} {Q:Exit→Act→World→Prop} {a:Act} {w:World} (I:σ→Act→World→Prop) (hr:C7 m s=some r) (h0:I s a w)
  (hround:∀ s a w x,I s a w→m s=some x→(∀ r',x=.done r'→r'=r)→c.wpIn (RW τ) 0 P (Exit.then (fun a' w'=>∃ s',x=.next s'∧I s' a' w') Q) a w):(Code.loop c).wpIn (RW τ) 0 P Q a w:=by
 obtain ⟨k,hk⟩:=iter_some hr;refine wpIn_loop (fun a w=>∃ j s,I s a w∧Xl m j s=some r) (fun a w=>least fun j=>∃ s,I s a w∧Xl m j s=some r) ⟨k,s,h0,hk⟩ ?_;rintro a w ⟨j0,s0,hI0,hj0⟩;obtain ⟨⟨s,hI,hj⟩,hmin⟩:=least_spec (p:=fun j=>∃ s,I s a w∧Xl m j s=some r) ⟨j0,s0,hI0,hj0⟩;generalize least (fun j=>∃ s,I s a w∧Xl m j s=some r)=j at hj hmin ⊢;cases j with
 | zero=>cases hj
 | succ j =>
  simp only [Xl] at hj;cases hm:m s with
  | none=>rw [hm] at hj;cases hj
  | some x =>
   rw [hm] at hj;refine Go.wpIn_mono (hround s a w x hI hm (by rintro r' rfl;simpa using hj)) ?_
   intro en a' w' hq;cases en with
   | normal =>
    obtain ⟨s',rfl,hI'⟩:=hq;have hex:∃ j,∃ s,I s a' w'∧Xl m j s=some r:=⟨j,s',hI',hj⟩;refine ⟨⟨j,s',hI',hj⟩,?_⟩;have:=(least_spec hex).2 j ⟨s',hI',hj⟩;omega
   | exit id=>exact hq
   | goto l=>exact hq
   | ret=>exact hq
   | panic ch=>exact hq
   | outgrown=>exact hq
end Go.Dc
