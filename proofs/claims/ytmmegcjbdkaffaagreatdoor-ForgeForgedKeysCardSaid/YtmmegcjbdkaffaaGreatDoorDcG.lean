import Derived.Test.YtmmegcjbdkaffaaGreatDoorDcF
import Derived.Lib.Bytealg
namespace Go.Dc
open Go
variable {P : Program} {ρ : Option Nat} {n : Fw} {e : List (Nat × Value)} {C : World → Prop}
theorem Az {b:Bool} (h:b=false):(b == true)=false:=by rw [h];rfl
theorem Ba {b:Bool} (h:b=true):(b == false)=false:=by rw [h];rfl
theorem A7 {c x y:Operand} {b:Bool} {v:Value} (hc:Bt e c=some (.bool b)) (hb:b=true) (h:Bt e x=some v):Ev P n e C (.pick c x y) v :=
  ev_pick hc (by subst hb;exact h) rfl
theorem A5 {c x y:Operand} {b:Bool} {v:Value} (hc:Bt e c=some (.bool b)) (hb:b=false) (h:Bt e y=some v):Ev P n e C (.pick c x y) v :=
  ev_pick hc (by subst hb;exact h) rfl
def Dr (v:Value) (i:Int) (m:Nat):Value :=
  match v with
  | .slice (some a) _ _=>.pointer (some (a.add (i.toNat * m)))
  | _=>undef
theorem Kw {p:Value}:Ld p 0=p:=by
  cases p <;> try rfl
  rename_i a
  cases a <;> rfl
theorem addP_mk (b o k:Nat):Ld (.pointer (some ⟨b,o,Option.none⟩)) k=.pointer (some ⟨b,o+k,Option.none⟩):=by simp [Ld,L3]
theorem Dz {α:Type} [Rep α] {g:Gh} {l:List α} {v:Value} {i:Int} {x:α} (hr:RepSl g l v) (hi:at? l i=some x):∃ cs,Rep.rep g x cs∧PtrC g (Dr v i (Rep.n α)) cs:=by
  obtain ⟨h0,hlt,hx⟩:=G5 hi;rcases hr with ⟨rfl,_⟩ | ⟨b,off,cap,c,t,fz,rfl,h2,h3,h4,h5⟩
  · simp at hlt
  · have hrep:=h5 i.toNat hlt;rw [hx] at hrep
    have hle:off+i.toNat * Rep.n α+Rep.n α≤c.size:=by
      have:(i.toNat+1) * Rep.n α≤l.length * Rep.n α:=Nat.mul_le_mul_right _ hlt;rw [Nat.add_mul,Nat.one_mul] at this;omega
    have hlen:=Rep.len hrep;exact ⟨_,hrep,b,off+i.toNat * Rep.n α,c,t,fz,by simp [Dr,L3],h3,by rw [hlen];exact hle,by rw [hlen]⟩
theorem B5 {α:Type} [Rep α] {C:World→Prop} {g:Gh} {l:List α} {v:Value} {i:Int} {z:α} {T E:TypeId} {x y:Operand} {k:IntKind} (hr:RepSl g l v) (hi:at? l i=some z) (hT:P.underlying T=some (.slice E)) (hz:(P.info? E).map (·.size)=some (Rep.n α))
    (hx:Bt e x=some v) (hy:Bt e y=some (.int k i)):Ev P n e C (.indexAddr T x y) (Dr v i (Rep.n α)):=by
  obtain ⟨h0,hlt,_⟩:=G5 hi;rcases hr with ⟨rfl,_⟩ | ⟨b,off,cap,c,t,fz,rfl,_⟩
  · simp at hlt
  · intro o a w ho F _;have h1:i < (l.length:Int):=by omega
    simp [execOp,ho,F.eval hx,F.eval hy,Ui hT hz h0 h1,Dr]
theorem Es {α:Type} [Rep α] {C:World→Prop} {g:Gh} {l:List α} {v:Value} {c:Hl} {i:Int} {z:α} {T E:TypeId} {x y:Operand} {k:IntKind} (hr:OwnS g l v c) (hi:at? l i=some z) (hT:P.underlying T=some (.slice E)) (hz:(P.info? E).map (·.size)=some (Rep.n α))
    (hx:Bt e x=some v) (hy:Bt e y=some (.int k i)):Ev P n e C (.indexAddr T x y) (Dr v i (Rep.n α)):=by
  obtain ⟨h0,hlt,_⟩:=G5 hi;rcases hr with ⟨rfl,rfl,_⟩ | ⟨b,cap,arr,t,rfl,_⟩
  · simp at hlt
  · intro o a w ho F _;have h1:i < (l.length:Int):=by omega
    simp [execOp,ho,F.eval hx,F.eval hy,Ui hT hz h0 h1,Dr]
theorem C0 {α:Type} [Rep α] {g:Gh} {l:List α} {v:Value} {c:Hl} {i:Int} {x:α} (hr:OwnS g l v c) (hi:at? l i=some x):∃ a,Dr v i (Rep.n α)=.pointer (some a):=by
  obtain ⟨h0,hlt,_⟩:=G5 hi;rcases hr with ⟨rfl,rfl,_⟩ | ⟨b,cap,arr,t,rfl,_⟩
  · simp at hlt
  · exact ⟨_,rfl⟩
theorem Hp {α:Type} [Rep α] {g:Gh} {l:List α} {v:Value} {c:Hl} {i:Int} {x:α} (hr:OwnS g l v c) (hi:at? l i=some x):∃ cs,Rep.rep g x cs∧∀ (cks:List Hl) (fr:Hl) (k:Nat),cks[k]? = some c→∀ w,St g cks fr w→PtrW w (Dr v i (Rep.n α)) cs:=by
  have hr':=hr;obtain ⟨b,arr,t,cs,hc,hrep,hcs,hle,hp,_⟩:=idx_own hr hi;obtain ⟨h0,hlt,_⟩:=G5 hi;rcases hr' with ⟨rfl,rfl,_⟩ | ⟨b',cap,arr',t',rfl,hc',_⟩
  · simp at hlt
  · refine ⟨cs,hrep,fun cks fr k hk w s=>?_⟩;have:=hp w cks fr k hk s;rw [hc] at hc';cases hc';simpa [Dr,L3] using this
theorem Km {w:World} {p:Value} {cs cells:List Value} (off:Nat) (h:PtrW w p cs) (hc:(cs.drop off).take cells.length=cells) (hm:off+cells.length≤cs.length):PtrW w (Ld p off) cells:=by
  have:=h.field off cells.length hm
  rwa [hc] at this
theorem Li {α:Type} [Rep α] {ops:Array Oper} {rest:List Oper} {o:Oper} {Q:Exit→Act→World→Prop} {a:Act} {w:World} {g:Gh} {cks:List Hl} {fr:Hl} {T:TypeId} {x y:Operand} {k:Nat} {u pv:Value} {us:List Value} {l:List α} {v:Value} {c:Hl} {i:Int} {z z':α} (off:Nat)
    (hg:Region.wanted o (yielded ops a.tmps)=true) (ho:o.op=.store T x y) (F:Fr n a e) (S:St g cks fr w) (hr:OwnS g l v c) (hi:at? l i=some z) (hpv:Ld (Dr v i (Rep.n α)) off=pv)
    (hx:Bt e x=some pv) (hy:Bt e y=some u) (hul:u.cells.toList=us) (hz:(P.info? T).map (·.size)=some us.length) (h1:∀ q∈us,Og q=true)
    (hk:cks[k]? = some c) (hl:off+us.length≤Rep.n α) (hrep:∀ cs,Rep.rep g z cs→Rep.rep g z' (cs.take off++us++cs.drop (off+us.length))) (hd:o.dst=Option.none)
    (K:∀ c' w',OwnS g (l.set i.toNat z') v c'→St g (cks.set k c') fr w'→wpListIn (RW ρ) 0 P ops Q rest a w'):wpListIn (RW ρ) 0 P ops Q (o::rest) a w:=by
  have hr':=hr;obtain ⟨b,arr,t,cs,hc,hrp,hcs,hle,hp,_,hset⟩:=idx_own hr hi;obtain ⟨h0,hlt,_⟩:=G5 hi;have hcl:=Rep.len hrp;subst hul
  have hbase:Dr v i (Rep.n α)=.pointer (some ⟨b,i.toNat * Rep.n α,Option.none⟩):=by
    rcases hr' with ⟨rfl,rfl,_⟩ | ⟨b',cap,arr',t',rfl,hc',_⟩
    · simp at hlt
    · rw [hc] at hc';cases hc';simp [Dr,L3]
  rw [hbase,addP_mk] at hpv;subst hpv;subst hc;have hlen:(u.cells.toList).length=u.cells.size:=by simp
  refine wl_store (c':=spl arr (i.toNat * Rep.n α+off) u.cells.toList) hg ho F S hx hy (by simpa using hz) h1 hk (by rw [hlen] at hl;omega) rfl hd ?_
  intro w' S';refine K _ w' (hset z' _ (hrep cs hrp) _ (Ow (by omega)) ?_) S'
  have e1:arr.toList.take (i.toNat * Rep.n α+off)=arr.toList.take (i.toNat * Rep.n α)++cs.take off:=by
    rw [hcs,List.take_take,Nat.min_eq_left (by omega),List.take_add]
  have e2:arr.toList.drop (i.toNat * Rep.n α+off+u.cells.toList.length)=cs.drop (off+u.cells.toList.length)++arr.toList.drop (i.toNat * Rep.n α+Rep.n α):=by
    rw [hcs,List.drop_take,List.drop_drop]
    have:arr.toList.drop (i.toNat * Rep.n α+Rep.n α)=(arr.toList.drop (i.toNat * Rep.n α+(off+u.cells.toList.length))).drop (Rep.n α - (off+u.cells.toList.length)):=by
      rw [List.drop_drop];congr 1;omega
    rw [this,List.take_append_drop,Nat.add_assoc]
  simp only [spl];rw [e1,e2];simp only [List.append_assoc]
theorem wl_storeW {α:Type} [Rep α] {ops:Array Oper} {rest:List Oper} {o:Oper} {Q:Exit→Act→World→Prop} {a:Act} {w:World} {g:Gh} {cks:List Hl} {fr:Hl} {T:TypeId} {x y:Operand} {k:Nat} {u:Value} {us:List Value} {l:List α} {v:Value} {c:Hl} {i:Int} {z z':α}
    (hg:Region.wanted o (yielded ops a.tmps)=true) (ho:o.op=.store T x y) (F:Fr n a e) (S:St g cks fr w) (hr:OwnS g l v c) (hi:at? l i=some z)
    (hx:Bt e x=some (Dr v i (Rep.n α))) (hy:Bt e y=some u) (hul:u.cells.toList=us) (hz:(P.info? T).map (·.size)=some us.length) (h1:∀ q∈us,Og q=true)
    (hk:cks[k]? = some c) (hl:us.length=Rep.n α) (hrep:Rep.rep g z' us) (hd:o.dst=Option.none)
    (K:∀ c' w',OwnS g (l.set i.toNat z') v c'→St g (cks.set k c') fr w'→wpListIn (RW ρ) 0 P ops Q rest a w'):wpListIn (RW ρ) 0 P ops Q (o::rest) a w :=
  Li (z':=z') 0 hg ho F S hr hi Kw hx hy hul hz h1 hk (by omega) (fun cs h=>by
    have:=Rep.len h;rw [List.take_zero,List.nil_append,List.drop_of_length_le (by omega),List.append_nil];exact hrep) hd K
theorem wl_cutS {α:Type} [Rep α] {ops:Array Oper} {rest:List Oper} {o:Oper} {Q:Exit→Act→World→Prop} {a:Act} {w:World} {g:Gh} {l l':List α} {v:Value} {x:Operand} {lo hi:Option Operand} {T E:TypeId} {p q:Int} {d:Nat}
    (hg:Region.wanted o (yielded ops a.tmps)=true) (ho:o.op=.slice T x lo hi Option.none) (hr:RepSl g l v) (hc:cut? l p q=some l') (hT:P.underlying T=some (.slice E)) (hz:(P.info? E).map (·.size)=some (Rep.n α))
    (hx:Bt e x=some v) (hlo:bnd e lo 0 p) (hhi:bnd e hi l.length q) (F:Fr n a e) (hd:o.dst=some d) (hn:Nat.blt d n.sz=true)
    (K:∀ v',RepSl g l' v'→∀ a',Fr n a' ((d,v')::e)→wpListIn (RW ρ) 0 P ops Q rest a' w):wpListIn (RW ρ) 0 P ops Q (o::rest) a w:=by
  obtain ⟨v',h',hev⟩:=ev_cut (P:=P) (n:=n) (e:=e) (C:=fun _=>True) hr hc hT hz hx hlo hhi;exact Lu hg (by rw [ho];exact hev) F trivial hd hn (K v' h')
theorem wq_cutS {α:Type} [Rep α] {ops:Array Oper} {rest:List Oper} {o:Oper} {Q:Act→Prop} {a:Act} {g:Gh} {l l':List α} {v:Value} {x:Operand} {lo hi:Option Operand} {T E:TypeId} {p q:Int} {d:Nat}
    (hg:Region.wanted o (yielded ops a.tmps)=true) (ho:o.op=.slice T x lo hi Option.none) (hr:RepSl g l v) (hc:cut? l p q=some l') (hT:P.underlying T=some (.slice E)) (hz:(P.info? E).map (·.size)=some (Rep.n α))
    (hx:Bt e x=some v) (hlo:bnd e lo 0 p) (hhi:bnd e hi l.length q) (F:Fr n a e) (hd:o.dst=some d) (hn:Nat.blt d n.sz=true)
    (K:∀ v',RepSl g l' v'→∀ a',Fr n a' ((d,v')::e)→wpQuiet P ops C Q rest a'):wpQuiet P ops C Q (o::rest) a:=by
  obtain ⟨v',h',hev⟩:=ev_cut (P:=P) (n:=n) (e:=e) (C:=C) hr hc hT hz hx hlo hhi;exact Bw hg (by rw [ho];exact hev) F hd hn (K v' h')
theorem wl_cutO {α:Type} [Rep α] {ops:Array Oper} {rest:List Oper} {o:Oper} {Q:Exit→Act→World→Prop} {a:Act} {w:World} {g:Gh} {l l':List α} {v:Value} {c:Hl} {x:Operand} {lo hi:Option Operand} {T E:TypeId} {q:Int} {d:Nat}
    (hg:Region.wanted o (yielded ops a.tmps)=true) (ho:o.op=.slice T x lo hi Option.none) (hr:OwnS g l v c) (hc:cut? l 0 q=some l') (hT:P.underlying T=some (.slice E)) (hz:(P.info? E).map (·.size)=some (Rep.n α))
    (hx:Bt e x=some v) (hlo:bnd e lo 0 0) (hhi:bnd e hi l.length q) (F:Fr n a e) (hd:o.dst=some d) (hn:Nat.blt d n.sz=true)
    (K:∀ v',OwnS g l' v' c→∀ a',Fr n a' ((d,v')::e)→wpListIn (RW ρ) 0 P ops Q rest a' w):wpListIn (RW ρ) 0 P ops Q (o::rest) a w:=by
  obtain ⟨v',h',hev⟩:=ev_cutOwn (P:=P) (n:=n) (e:=e) (C:=fun _=>True) hr hc hT hz hx hlo hhi;exact Lu hg (by rw [ho];exact hev) F trivial hd hn (K v' h')
theorem bnd0 (d:Int):bnd e Option.none d d:=rfl
theorem bndV {y:Operand} {k:IntKind} {d i:Int} (h:Bt e y=some (.int k i)):bnd e (some y) d i:=⟨k,h⟩
theorem Ed {α:Type} [Rep α] {ops:Array Oper} {rest:List Oper} {o:Oper} {Q:Exit→Act→World→Prop} {a:Act} {w:World} {g:Gh} {cks:List Hl} {fr:Hl} {T E:TypeId} {parts:List (Nat×Operand)} {vs cs:List Value} {d b L:Nat} {z:Value} {l:List α}
    (hg:Region.wanted o (yielded ops a.tmps)=true) (ho:o.op=.buildSlice T L parts.toArray) (hL:vs.length=L) (hp:parts.map (fun p=>(p.1,Bt e p.2))=(M9 0 vs).map (fun p=>(p.1,some p.2))) (hT:P.underlying T=some (.slice E)) (hE:ElemT P E (Rep.n α) b z)
    (hv:∀ v∈vs,v.cells.size=Rep.n α) (hl:Nat.ble (vs.length * Rep.n α) 16777216=true) (hcat:Cat g l cs) (hcs:Hr vs=cs) (hll:L=l.length) (F:Fr n a e) (S:St g cks fr w) (hd:o.dst=some d) (hn:Nat.blt d n.sz=true)
    (K:∀ v c a' w',OwnS g l v c→Fr n a' ((d,v)::e)→St g (c::cks) fr w'→wpListIn (RW ρ) 0 P ops Q rest a' w'):wpListIn (RW ρ) 0 P ops Q (o::rest) a w:=by
  refine wl_buildSlice hg ho hL hp hT hE hv (Nat.le_of_ble_eq_true hl) hcs F S hd hn ?_;intro b' a' w' F' S';exact K _ _ a' w' (OwnS.lit hcat (by rw [hL,hll])) F' S'
theorem Ee {m:Nat}:∀ v∈([]:List Value),v.cells.size=m:=fun _ h=>by cases h
theorem Ci {m:Nat} {v:Value} {r:List Value} (h:v.cells.size=m) (hr:∀ u∈r,u.cells.size=m):∀ u∈v::r,u.cells.size=m:=by
  intro u hu;rcases List.mem_cons.1 hu with rfl | h';exact h;exact hr u h'
theorem A2:∀ v∈([]:List Value),Og v=true:=fun _ h=>by cases h
theorem Ag {v:Value} {r:List Value} (h:Og v=true) (hr:∀ u∈r,Og u=true):∀ u∈v::r,Og u=true:=by
  intro u hu;rcases List.mem_cons.1 hu with rfl | h';exact h;exact hr u h'
theorem OwnS.one {α:Type} [Rep α] {g:Gh} {l:List α} {v:Value} {c:Hl} (h:OwnS g l v c):Og v=true:=by
  rcases h with ⟨rfl,_⟩ | ⟨b,cap,arr,t,rfl,_⟩ <;> rfl
theorem RepSl.csz {α:Type} [Rep α] {g:Gh} {l:List α} {v:Value} (h:RepSl g l v):v.cells.size=1:=by
  rcases h with ⟨_,_,_,rfl⟩ | ⟨b,off,cap,c,t,fz,rfl,_⟩ <;> rfl
theorem OwnS.csz {α:Type} [Rep α] {g:Gh} {l:List α} {v:Value} {c:Hl} (h:OwnS g l v c):v.cells.size=1:=by
  rcases h with ⟨rfl,_⟩ | ⟨b,cap,arr,t,rfl,_⟩ <;> rfl
theorem RepSl.cl {α:Type} [Rep α] {g:Gh} {l:List α} {v:Value} (h:RepSl g l v):v.cells.toList=[v]:=by
  rcases h with ⟨_,_,_,rfl⟩ | ⟨b,off,cap,c,t,fz,rfl,_⟩ <;> rfl
theorem OwnS.cl {α:Type} [Rep α] {g:Gh} {l:List α} {v:Value} {c:Hl} (h:OwnS g l v c):v.cells.toList=[v]:=by
  rcases h with ⟨rfl,_⟩ | ⟨b,cap,arr,t,rfl,_⟩ <;> rfl
theorem Dp:Hr []=[]:=rfl
theorem B0 {v:Value} {r a b:List Value} (h:v.cells.toList=a) (h':Hr r=b):Hr (v::r)=a++b:=by
  subst h;subst h';rfl
theorem Gq {w:World} {t:Nat} {v:Value} (h:Mp e t=some v):ResV P e w (.tmp t) v:=h
theorem res1 {w:World} {t T:Nat} {d:TypeDesc} {p v:Value} (h:Mp e t=some p) (hT:P.underlying T=some d) (hd:aggD d=false) (hp:PtrW w p [v]):ResV P e w (.cell t T) v:=⟨p,h,.inl ⟨d,hT,hd,hp⟩⟩
theorem resA {w:World} {t T:Nat} {d:TypeDesc} {p:Value} {cs:List Value} (h:Mp e t=some p) (hT:P.underlying T=some d) (hd:aggD d=true) (hp:PtrW w p cs) (hs:(P.info? T).map (·.size)=some cs.length):ResV P e w (.cell t T) (.agg cs.toArray) :=
  ⟨p,h,.inr ⟨d,cs,hT,hd,hs,hp,rfl⟩⟩
theorem Bl {w:World}:Ns P e w [] []:=rfl
theorem Ar {w:World} {r:ResultVar} {rs:List ResultVar} {v:Value} {vs:List Value} (h:ResV P e w r v) (hs:Ns P e w rs vs):Ns P e w (r::rs) (v::vs):=⟨v,vs,rfl,h,hs⟩
section ends
variable {K : Act → World → Prop} {Q : Exit → Act → World → Prop} {a : Act} {w : World} {i j : Nat}
theorem Ao (h:Q .normal a w):Code.skip.wpIn (RW ρ) 0 P Q a w:=wpIn_skip h
theorem Ax (h:Q .ret a w):Code.ret.wpIn (RW ρ) 0 P Q a w:=wpIn_ret h
theorem Cn {id:Nat} (h:Q (.exit id) a w):(Code.exit id).wpIn (RW ρ) 0 P Q a w:=wpIn_exit h
theorem Af {x y:Code} (h:x.wpIn (RW ρ) 0 P (Exit.then (y.wpIn (RW ρ) 0 P Q) Q) a w):(Code.seq x y).wpIn (RW ρ) 0 P Q a w:=wpIn_seq h
theorem Au {id:Nat} {c:Code} (h:c.wpIn (RW ρ) 0 P (Exit.inBlock id Q) a w):(Code.block id c).wpIn (RW ρ) 0 P Q a w:=wpIn_block h
theorem Ad {id:Nat} {l:List Oper} (h:wpListIn (RW ρ) 0 P l.toArray Q l a w):(Code.region id l.toArray false).wpIn (RW ρ) 0 P Q a w:=wpIn_region_lit h
theorem Ab {ops:Array Oper} (h:Q .normal a w):wpListIn (RW ρ) 0 P ops Q [] a w:=h
theorem Ac (h:K a w):Exit.then K Q .normal a w:=h
theorem Bj (h:Q (.exit i) a w):Exit.then K Q (.exit i) a w:=h
theorem A1 (h:Q .ret a w):Exit.then K Q .ret a w:=h
theorem Cf (h:Q .normal a w):Exit.inBlock i Q .normal a w:=h
theorem Ek (h:Q .normal a w):Exit.inBlock i Q (.exit i) a w:=by simp only [Exit.inBlock,if_true];exact h
theorem inb_e (hne:Nat.beq j i=false) (h:Q (.exit j) a w):Exit.inBlock i Q (.exit j) a w:=by
  have:j≠i:=fun e=>by subst e;simp at hne
  simp only [Exit.inBlock,if_neg this];exact h
theorem Cg (h:Q .ret a w):Exit.inBlock i Q .ret a w:=h
end ends
theorem En {ops:Array Oper} {rest:List Oper} {o:Oper} {Q:Exit→Act→World→Prop} {a:Act} {w:World} {g:Gh} {cks:List Hl} {fr:Hl} {T t:TypeId} {x y:Operand} {b off k:Nat} {v:Value} {vs:List Value} {c c':Array Value}
    (hg:Region.wanted o (yielded ops a.tmps)=true) (ho:o.op=.store T x y) (F:Fr n a e) (S:St g cks fr w)
    (hx:Bt e x=some (.pointer (some ⟨b,off,Option.none⟩))) (hy:Bt e y=some v) (hcl:v.cells.toList=vs) (hz:(P.info? T).map (·.size)=some vs.length) (h1:∀ u∈vs,Og u=true)
    (hk:cks[k]? = some [(b,.cells c t (0,0))]) (hl:off+vs.length≤c.size) (hc':spl c off vs=c') (hd:o.dst=Option.none)
    (K:∀ w',St g (cks.set k [(b,.cells c' t (0,0))]) fr w'→wpListIn (RW ρ) 0 P ops Q rest a w'):wpListIn (RW ρ) 0 P ops Q (o::rest) a w:=by
  subst hcl;exact wl_store hg ho F S hx hy (by simpa using hz) h1 hk (by simpa using hl) hc' hd K
theorem wl_boxC {ops:Array Oper} {rest:List Oper} {o:Oper} {Q:Exit→Act→World→Prop} {a:Act} {w:World} {g:Gh} {cks:List Hl} {fr:Hl} {T:TypeId} {x:Operand} {v:Value} {cs:List Value} {d:Nat}
    (hg:Region.wanted o (yielded ops a.tmps)=true) (ho:o.op=.box T x) (hx:Bt e x=some v) (hcl:v.cells.toList=cs) (F:Fr n a e) (S:St g cks fr w)
    (hd:o.dst=some d) (hn:Nat.blt d n.sz=true)
    (K:∀ b a' w',Fr n a' ((d,.pointer (some ⟨b,0,Option.none⟩))::e)→St g ([(b,.cells cs.toArray T (0,0))]::cks) fr w'→wpListIn (RW ρ) 0 P ops Q rest a' w'):wpListIn (RW ρ) 0 P ops Q (o::rest) a w :=
  wl_box hg ho hx (by rw [← hcl]) F S hd hn K
def Qw (v:Value):Prop:=∃ a m c,v=.slice a m c
theorem RepSl.isSl {α:Type} [Rep α] {g:Gh} {l:List α} {v:Value} (h:RepSl g l v):Qw v:=by
  obtain ⟨a,c,h,_⟩:=h.len;exact ⟨_,_,_,h⟩
theorem OwnS.isSl {α:Type} [Rep α] {g:Gh} {l:List α} {v:Value} {c:Hl} (h:OwnS g l v c):Qw v:=by
  obtain ⟨a,c,h,_⟩:=h.len;exact ⟨_,_,_,h⟩
theorem Tp {x:Code} {Q:Exit→Act→World→Prop} {a:Act} {w:World} (J:Act→World→Prop) (h1:x.wpIn (RW ρ) 0 P (Exit.then J Q) a w) (h2:∀ a w,J a w→Q .normal a w):x.wpIn (RW ρ) 0 P Q a w:=by
  refine Go.wpIn_mono h1 ?_;intro en a' w' hq;cases en <;> first | exact h2 _ _ hq | exact hq
theorem St0.of_eq {g:Gh} {o o':Hl} {w:World} (h:St0 g o w) (e:o=o'):St0 g o' w:=e ▸ h
theorem Gx {fn:Func} {R:Ending→World→Prop} {a:Act} {w:World} {rs:List ResultVar} (vs:List Value) {m:Nat} (F:Fr ⟨m,[]⟩ a e) (hr:fn.results=rs.toArray) (h:Ns P e w rs vs) (hR:R (.returned (pack vs)) w):bodyPost P fn R .ret a w:=post_ret (n:=⟨m,[]⟩) vs F hr h hR
theorem Vt {fn:Func} {R:Ending→World→Prop} {a:Act} {w:World} {rs:List ResultVar} (vs:List Value) {m:Nat} (F:Fr ⟨m,[]⟩ a e) (hr:fn.results=rs.toArray) (h:Ns P e w rs vs) (hR:R (.returned (pack vs)) w):bodyPost P fn R .normal a w:=post_ret (n:=⟨m,[]⟩) vs F hr h hR
theorem ev_callx {f:Operand} {fn:FuncId} {xs:List Operand} {vs:List Value} {A:Array TypeId} {v:Value} (hf:Bt e f=some (.func (.func fn) #[] #[])) (hxs:xs.map (Bt e)=vs.map some)
    (hrun:∀ w,(callFunc fn vs.toArray).run P w=.ok (.value v) w):Ev P n e C (.call { callee:=.value f,args:=xs.toArray,argTypes:=A }) v:=by
  intro o a w ho F _
  have hm:xs.map a.eval=vs:=by
    clear ho hrun
    induction xs generalizing vs with
    | nil=>cases vs with
      | nil=>rfl
      | cons u r=>simp at hxs
    | cons p r ih=>cases vs with
      | nil=>simp at hxs
      | cons u s =>
        simp only [List.map_cons,List.cons.injEq] at hxs ⊢;exact ⟨F.eval hxs.1,ih hxs.2⟩
  simp [execOp,ho,resolve,F.eval hf,Deferred.ofValue,hm,invoke,hrun]
def idxB (s:ByteArray) (c:Int):Int:=Lib.indexByte s.data.toList c.toNat.toUInt8
theorem run_idxB {fn : Func} {f : FuncId} (hf : P.funcs[f]? = some fn) (hname : (fn.name == "runtime.NumGoroutine") = false)
    (hb:fn.body.isNone=true) (hn:Extern.findNext fn=Option.none) (he:Extern.find fn=some Extern.BytealgIndexByte.indexByte) (s:ByteArray) (c:Int) (w:World) :
    (callFunc f #[.string s,.int .u8 c]).run P w=.ok (.value (.int .i64 (idxB s c))) w:=by
  rw [run_callFunc_extern hf hname hb hn he,Lib.run_indexByteString];rfl
end Go.Dc
