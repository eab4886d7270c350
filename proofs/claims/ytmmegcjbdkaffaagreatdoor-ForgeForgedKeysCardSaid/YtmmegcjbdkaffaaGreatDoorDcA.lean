import Derived.WalkKit
import Derived.Deep.Quiet
import Derived.CallsIn
import Derived.TacticsIn
import Derived.OrdersIn
import Derived.RangeFuncIn
import Derived.RangeFuncLeaves
namespace Go.Dc
open Go
theorem Z {α:Sort _} {a:α}:a=a:=rfl
structure Gh where
  snap:Nat→Option Obj
  os:Os
  out:Array (Nat×ByteArray)
  tape:Nat→Question→Nat
  dr:Nat
abbrev Hl:=List (Nat×Obj)
structure St0 (g:Gh) (o:Hl) (w:World):Prop where
  snap:∀ b x,g.snap b=some x→w.heap[b]? = some x
  own:∀ p∈o,w.heap[p.1]? = some p.2∧g.snap p.1=Option.none
  nd:(o.map (·.1)).Nodup
  os:w.os=g.os
  out:w.output=g.out
  tape:w.tape=g.tape
  dr:g.dr≤w.drawn
structure Le (g g':Gh):Prop where
  snap:∀ b x,g.snap b=some x→g'.snap b=some x
  os:g'.os=g.os
  out:g'.out=g.out
  tape:g'.tape=g.tape
  dr:g.dr≤g'.dr
theorem Le.refl (g:Gh):Le g g:=⟨fun _ _ h=>h,rfl,rfl,rfl,Nat.le_refl _⟩
theorem Le.trans {a b c:Gh} (h:Le a b) (h':Le b c):Le a c:=⟨fun _ _ x=>h'.snap _ _ (h.snap _ _ x),h'.os.trans h.os,h'.out.trans h.out,h'.tape.trans h.tape,Nat.le_trans h.dr h'.dr⟩
def fl:List Hl→Hl→Hl
  | [],fr=>fr
  | c::r,fr=>c++fl r fr
abbrev St (g:Gh) (cs:List Hl) (fr:Hl) (w:World):Prop:=St0 g (fl cs fr) w
theorem fl_append (xs ys:List Hl) (fr:Hl):fl (xs++ys) fr=fl xs (fl ys fr):=by
  induction xs with
  | nil=>rfl
  | cons x xs ih=>simp [fl,ih]
theorem fl_set_perm {cs:List Hl} {fr:Hl} {k:Nat} {c:Hl} (h:cs[k]? = some c):(fl cs fr).Perm (c++fl (cs.set k []) fr):=by
  induction cs generalizing k with
  | nil=>simp at h
  | cons x xs ih =>
    cases k with
    | zero=>simp at h;subst h;simp [fl]
    | succ k =>
      simp at h;have:=ih h;simp only [fl,List.set_cons_succ];refine (List.Perm.append_left x this).trans ?_;rw [← List.append_assoc,← List.append_assoc];exact List.Perm.append_right _ List.perm_append_comm
theorem St0.perm {g:Gh} {o o':Hl} {w:World} (h:St0 g o w) (p:o.Perm o'):St0 g o' w where
  snap:=h.snap
  own:=fun q hq=>h.own q (p.mem_iff.2 hq)
  nd:=(p.map _).nodup_iff.1 h.nd
  os:=h.os
  out:=h.out
  tape:=h.tape
  dr:=h.dr
theorem St0.weak {g g':Gh} {o:Hl} {w:World} (l:Le g g') (h:St0 g' o w):St0 g o w where
  snap:=fun b x hb=>h.snap b x (l.snap b x hb)
  own:=fun p hp=>⟨(h.own p hp).1,by
    cases hg:g.snap p.1 with
    | none=>rfl
    | some x=>have:=(h.own p hp).2;rw [l.snap _ _ hg] at this;cases this⟩
  nd:=h.nd
  os:=h.os.trans l.os
  out:=h.out.trans l.out
  tape:=h.tape.trans l.tape
  dr:=Nat.le_trans l.dr h.dr
theorem St0.drop {g:Gh} {c o:Hl} {w:World} (h:St0 g (c++o) w):St0 g o w where
  snap:=h.snap
  own:=fun p hp=>h.own p (List.mem_append_right _ hp)
  nd:=by have:=h.nd;rw [List.map_append,List.nodup_append] at this;exact this.2.1
  os:=h.os
  out:=h.out
  tape:=h.tape
  dr:=h.dr
theorem St.front {g:Gh} {cs:List Hl} {fr:Hl} {w:World} (k:Nat) {c:Hl} (hk:cs[k]? = some c) (h:St g cs fr w):St0 g (c++fl (cs.set k []) fr) w :=
  h.perm (fl_set_perm hk)
theorem St.back {g:Gh} {cs:List Hl} {fr:Hl} {w:World} (k:Nat) {c:Hl} (hk:k < cs.length) (h:St0 g (c++fl (cs.set k []) fr) w):St g (cs.set k c) fr w:=by
  refine h.perm ?_;have:=fl_set_perm (cs:=cs.set k c) (fr:=fr) (k:=k) (c:=c) (by simp [hk])
  simpa using this.symm
theorem St.lose {g:Gh} {cs:List Hl} {fr:Hl} {w:World} (k:Nat) (h:St g cs fr w):St g (cs.set k []) fr w:=by
  cases hk:cs[k]? with
  | none=>rw [List.set_eq_of_length_le (by simpa using hk)];exact h
  | some c=>exact (h.front k hk).drop
theorem fl_erase (cs:List Hl) (fr:Hl) (k:Nat):fl (cs.eraseIdx k) fr=fl (cs.set k []) fr:=by
  induction cs generalizing k with
  | nil=>simp
  | cons x xs ih =>
    cases k with
    | zero=>simp [fl]
    | succ k=>simp [fl,ih]
theorem St.heap {g:Gh} {cs:List Hl} {fr:Hl} {w:World} {b:Nat} {x:Obj} (k:Nat) (hk:cs[k]? = some [(b,x)]) (h:St g cs fr w):w.heap[b]? = some x :=
  ((h.front k hk).own (b,x) (by simp)).1
theorem St.snapNone {g:Gh} {cs:List Hl} {fr:Hl} {w:World} {b:Nat} {x:Obj} (k:Nat) (hk:cs[k]? = some [(b,x)]) (h:St g cs fr w):g.snap b=Option.none :=
  ((h.front k hk).own (b,x) (by simp)).2
theorem Ni {w:World} {b:Nat} {x:Obj} (h:w.heap[b]? = some x):b < w.heap.size:=by
  rcases Nat.lt_or_ge b w.heap.size with h' | h'
  · exact h'
  · simp [Array.getElem?_eq_none h'] at h
theorem St0.push {g:Gh} {o:Hl} {w w':World} {x:Obj} (h:St0 g o w) (hh:w'.heap=w.heap.push x) (ho:w'.os=w.os) (hu:w'.output=w.output) (ht:w'.tape=w.tape) (hq:w.drawn≤w'.drawn:=by first | exact Nat.le_refl _ | exact Nat.le_succ _):St0 g ((w.heap.size,x)::o) w' where
  snap:=fun b y hb=>by
    have:=h.snap b y hb;rw [hh,Array.getElem?_push,if_neg (Nat.ne_of_lt (Ni this))];exact this
  own:=by
    intro p hp;simp only [List.mem_cons] at hp;rcases hp with rfl | hp
    · refine ⟨by simp [hh],?_⟩
      cases hg:g.snap w.heap.size with
      | none=>rfl
      | some y=>have:=Ni (h.snap _ _ hg);omega
    · have:=h.own p hp;exact ⟨by rw [hh,Array.getElem?_push,if_neg (Nat.ne_of_lt (Ni this.1))];exact this.1,this.2⟩
  nd:=by
    simp only [List.map_cons,List.nodup_cons,List.mem_map,not_exists,not_and];exact ⟨fun p hp he=>by have:=Ni (h.own p hp).1;omega,h.nd⟩
  os:=ho.trans h.os
  out:=hu.trans h.out
  tape:=ht.trans h.tape
  dr:=Nat.le_trans h.dr hq
theorem St0.keep {g:Gh} {o:Hl} {w w':World} (h:St0 g o w) (hh:w'.heap=w.heap) (ho:w'.os=w.os) (hu:w'.output=w.output) (ht:w'.tape=w.tape) (hq:w.drawn≤w'.drawn:=by first | exact Nat.le_refl _ | exact Nat.le_succ _):St0 g o w' where
  snap:=fun b y hb=>by rw [hh];exact h.snap b y hb
  own:=fun p hp=>by rw [hh];exact h.own p hp
  nd:=h.nd
  os:=ho.trans h.os
  out:=hu.trans h.out
  tape:=ht.trans h.tape
  dr:=Nat.le_trans h.dr hq
theorem St0.write {g:Gh} {o:Hl} {w w':World} {b:Nat} {x y:Obj} (h:St0 g ((b,x)::o) w) (hb:w'.heap[b]? = some y) (hr:∀ c,c≠b→w'.heap[c]? = w.heap[c]?) (ho:w'.os=w.os) (hu:w'.output=w.output) (ht:w'.tape=w.tape) (hq:w.drawn≤w'.drawn:=by first | exact Nat.le_refl _ | exact Nat.le_succ _) :
    St0 g ((b,y)::o) w' where
  snap:=fun c z hc=>by
    have hb':=(h.own (b,x) (by simp)).2
    rw [hr c (fun e=>by rw [e] at hc;rw [hb'] at hc;cases hc)]
    exact h.snap c z hc
  own:=by
    intro p hp;simp only [List.mem_cons] at hp;rcases hp with rfl | hp
    · exact ⟨hb,(h.own (b,x) (by simp)).2⟩
    · have hne:p.1≠b:=by
        have:=h.nd;simp only [List.map_cons,List.nodup_cons,List.mem_map,not_exists,not_and] at this;exact fun e=>this.1 p hp e
      rw [hr _ hne];exact h.own p (by simp [hp])
  nd:=by have:=h.nd;simpa using this
  os:=ho.trans h.os
  out:=hu.trans h.out
  tape:=ht.trans h.tape
  dr:=Nat.le_trans h.dr hq
def Gh.add (g:Gh) (c:Hl):Gh:={ g with snap:=fun b=>(g.snap b).orElse fun _=>(c.find? (·.1 == b)).map (·.2) }
theorem Le.add (g:Gh) (c:Hl):Le g (g.add c):=⟨fun b x h=>by simp [Gh.add,h],rfl,rfl,rfl,Nat.le_refl _⟩
theorem find_of_mem {c:Hl} {p:Nat×Obj} (hn:(c.map (·.1)).Nodup) (hp:p∈c):c.find? (·.1 == p.1)=some p:=by
  induction c with
  | nil=>cases hp
  | cons q r ih =>
    simp only [List.map_cons,List.nodup_cons] at hn;simp only [List.mem_cons] at hp;rcases hp with rfl | hp
    · simp
    · have:q.1≠p.1:=fun e=>hn.1 (by rw [e];exact List.mem_map_of_mem hp)
      simp [this,ih hn.2 hp]
theorem St0.freeze {g:Gh} {c o:Hl} {w:World} (h:St0 g (c++o) w):St0 (g.add c) o w where
  snap:=by
    intro b x hb;simp only [Gh.add] at hb;cases hg:g.snap b with
    | some y=>simp [hg] at hb;subst hb;exact h.snap _ _ hg
    | none =>
      simp [hg] at hb;obtain ⟨b',hb⟩:=hb;have hm:=List.mem_of_find?_eq_some hb;have he:=List.find?_some hb;simp at he;have:=(h.own (b',x) (List.mem_append_left _ hm)).1;simp at this;rw [he] at this;exact this
  own:=by
    intro p hp;refine ⟨(h.own p (List.mem_append_right _ hp)).1,?_⟩;have hg:=(h.own p (List.mem_append_right _ hp)).2;have hn:=h.nd;rw [List.map_append,List.nodup_append] at hn;simp only [Gh.add,hg,Option.orElse_none,Option.map_eq_none_iff,List.find?_eq_none,beq_iff_eq];exact fun q hq e=>hn.2.2 q.1 (List.mem_map_of_mem hq) p.1 (List.mem_map_of_mem hp) e
  nd:=h.drop.nd
  os:=h.os
  out:=h.out
  tape:=h.tape
  dr:=h.dr
theorem Gh.add_snap {g:Gh} {c:Hl} {o:Hl} {w:World} (h:St0 g (c++o) w) {p:Nat×Obj} (hp:p∈c):(g.add c).snap p.1=some p.2:=by
  have hg:=(h.own p (List.mem_append_left _ hp)).2;have hn:=h.nd;rw [List.map_append,List.nodup_append] at hn;simp [Gh.add,hg,find_of_mem hn.1 hp]
theorem St.freeze {g:Gh} {cs:List Hl} {fr:Hl} {w:World} (k:Nat) {c:Hl} (hk:cs[k]? = some c) (h:St g cs fr w):St (g.add c) (cs.eraseIdx k) fr w:=by
  have:=(h.front k hk).freeze;unfold St;rw [fl_erase];exact this
def Mp:List (Nat×Value)→Nat→Option Value
  | [],_=>Option.none
  | p::r,t=>bif Nat.beq p.1 t then some p.2 else Mp r t
structure Fw where
  sz:Nat
  df:List Deferred
instance {k:Nat}:OfNat Fw k:=⟨⟨k,[]⟩⟩
def RW (ρ:Option Nat):Fence:={ Fence.wide with round:=ρ }
structure Fr (n:Fw) (a:Act) (e:List (Nat×Value)):Prop where
  sz:a.tmps.size=n.sz
  df:a.defers=n.df
  get:∀ t v,Mp e t=some v→a.tmps.getD t undef=v
def Bt (e:List (Nat×Value)):Operand→Option Value
  | .tmp t=>Mp e t
  | .const v=>some v
  | .global g=>some (.pointer (some ⟨g,0,Option.none⟩))
  | .func f=>some (.func (.func f) #[] #[])
theorem Fr.eval {n:Fw} {a:Act} {e:List (Nat×Value)} (F:Fr n a e) {x:Operand} {v:Value} (h:Bt e x=some v):a.eval x=v:=by
  cases x with
  | tmp t=>exact F.get t v h
  | const v'=>simpa [Bt,Act.eval] using h
  | global g=>simpa [Bt,Act.eval] using h
  | func f=>simpa [Bt,Act.eval] using h
theorem Fr.put {n:Fw} {a:Act} {e:List (Nat×Value)} (F:Fr n a e) {d:Nat} {v:Value} (hd:Nat.blt d n.sz=true):Fr n (a.put (some d) v) ((d,v)::e) where
  sz:=by simp [Act.put,F.sz]
  df:=by simp [Act.put,F.df]
  get:=by
    intro t u h;have hd':d < n.sz:=by simpa using hd
    by_cases ht:d=t
    · subst ht;simp only [Mp,Nat.beq_refl,cond_true,Option.some.injEq] at h;subst h;simp [Act.put,F.sz,hd']
    · have:Nat.beq d t=false:=by
        cases hb:Nat.beq d t with
        | false=>rfl
        | true=>exact absurd (Nat.eq_of_beq_eq_true hb) ht
      simp only [Mp,this,cond_false] at h;have:=F.get t u h;simp only [Act.put];rw [← this];simp [ht]
def Sub (e:List (Nat×Value)):List (Nat×Value)→Prop
  | []=>True
  | p::r=>Mp e p.1=some p.2∧Sub e r
theorem Sub.look {e e':List (Nat×Value)} (h:Sub e e'):∀ t v,Mp e' t=some v→Mp e t=some v:=by
  induction e' with
  | nil=>intro t v h;cases h
  | cons p r ih =>
    intro t v ht;simp only [Mp] at ht;cases hb:Nat.beq p.1 t with
    | true =>
      rw [hb] at ht;simp only [cond_true,Option.some.injEq] at ht;rw [← Nat.eq_of_beq_eq_true hb,← ht];exact h.1
    | false =>
      rw [hb] at ht;exact ih h.2 t v ht
theorem Fr.sub {n:Fw} {a:Act} {e e':List (Nat×Value)} (F:Fr n a e) (h:Sub e e'):Fr n a e' :=
  ⟨F.sz,F.df,fun t v ht=>F.get t v (h.look t v ht)⟩
def argE:Nat→List Value→List (Nat×Value)
  | _,[]=>[]
  | k,v::r=>(k,v)::argE (k+1) r
theorem look_argE {l:List Value} {k t:Nat} {v:Value} (h:Mp (argE k l) t=some v):k≤t∧l[t - k]? = some v:=by
  induction l generalizing k with
  | nil=>cases h
  | cons u r ih =>
    simp only [argE,Mp] at h;cases hb:Nat.beq k t with
    | true =>
      rw [hb] at h;have:=Nat.eq_of_beq_eq_true hb;subst this;simpa using h
    | false =>
      rw [hb] at h;obtain ⟨h1,h2⟩:=ih h;refine ⟨by omega,?_⟩
      rw [show t - k=(t - (k+1))+1 from by omega]
      simpa using h2
theorem Fr.enter {n:Nat} {args:List Value} (h:args.length≤n):Fr ⟨n,[]⟩ { tmps:=args.toArray++Array.replicate (n - args.toArray.size) undef,defers:=[] } (argE 0 args) where
  sz:=by simp;omega
  df:=rfl
  get:=by
    intro t v ht;obtain ⟨_,h2⟩:=look_argE ht;simp at h2
    have hl:t < args.length:=by
      rcases Nat.lt_or_ge t args.length with h' | h'
      · exact h'
      · simp [List.getElem?_eq_none h'] at h2
    rw [List.getElem?_eq_getElem hl] at h2;simpa [Array.getElem?_append,hl] using h2
end Go.Dc
