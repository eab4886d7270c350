import Derived.Test.YtmhjcomgbfonfaaGreatDoorDcJ
namespace Go.Dc
open Go
variable {P : Program} {ρ : Option Nat} {n : Fw} {e : List (Nat × Value)} {C : World → Prop}
structure Raw (m:Nat) where
  cs:List Value
  len:cs.length=m
  one:∀ v∈cs,Nv v=true
instance (m:Nat):Rep (Raw m) where
  one:=fun {_ x _} h v hv=>by rw [h] at hv;exact x.one v hv
  n:=m
  rep:=fun _ x cs=>cs=x.cs
  len:=fun {_ x _} h=>by rw [h];exact x.len
  mono:=fun _ h=>h
def Fz (g:Gh) (c:Hl):Prop:=∀ p∈c,g.snap p.1=some p.2
theorem Fz.left {g:Gh} {c d:Hl} (h:Fz g (c++d)):Fz g c:=fun p hp=>h p (List.mem_append_left _ hp)
theorem Fz.right {g:Gh} {c d:Hl} (h:Fz g (c++d)):Fz g d:=fun p hp=>h p (List.mem_append_right _ hp)
theorem Fz.perm {g:Gh} {c d:Hl} (h:Fz g c) (p:c.Perm d):Fz g d:=fun q hq=>h q (p.mem_iff.2 hq)
theorem Fz.add {g:Gh} {c o:Hl} {w:World} (s:St0 g (c++o) w):Fz (g.add c) c:=fun _ hp=>Gh.add_snap s hp
theorem Fz.mem {g:Gh} {ks:List Hl} (h:Fz g ks.flatten) {i:Nat} (hi:i < ks.length):Fz g ks[i] :=
  fun q hq=>h q (List.mem_flatten.2 ⟨_,List.getElem_mem hi,hq⟩)
theorem OwnS.fz {α:Type} [Rep α] {g g':Gh} {l:List α} {v:Value} {c:Hl} (hl:Le g g') (hf:Fz g' c) (h:OwnS g l v c):RepSl g' l v:=by
  rcases h with ⟨h1,h2,h3⟩ | ⟨b,cap,arr,t,h1,h2,h3,h4,h5⟩
  · exact .inl ⟨h2,_,_,h1⟩
  · subst h2
    exact .inr ⟨b,0,cap,arr,t,(0,0),h1,h3,hf (b,.cells arr t (0,0)) (by simp),by rw [h4,Nat.zero_add];exact Nat.mul_le_mul_right _ h3,fun i hi=>by
      rw [Nat.zero_add];exact Rep.mono hl (h5 i hi)⟩
class ORep (α:Type) [Rep α] where
  orep:Gh→α→List Value→Hl→Prop
  olen:∀ {g:Gh} {x:α} {cs:List Value} {c:Hl},orep g x cs c→cs.length=Rep.n α
  omono:∀ {g g':Gh} {x:α} {cs:List Value} {c:Hl},Le g g'→orep g x cs c→orep g' x cs c
  oone:∀ {g:Gh} {x:α} {cs:List Value} {c:Hl},orep g x cs c→∀ v∈cs,Nv v=true
  ofz:∀ {g g':Gh} {x:α} {cs:List Value} {c:Hl},Le g g'→Fz g' c→orep g x cs c→Rep.rep g' x cs
instance {α:Type} [Rep α]:ORep (List α) where
  orep:=fun g l cs c=>∃ v,cs=[v]∧OwnS g l v c
  olen:=fun ⟨v,h,_⟩=>by rw [h];rfl
  omono:=fun hl ⟨v,h,h'⟩=>⟨v,h,h'.mono hl⟩
  oone:=fun ⟨v,h,h'⟩ u hu=>by rw [h] at hu;simp at hu;rw [hu];exact h'.one
  ofz:=fun hl hf ⟨v,h,h'⟩=>⟨v,h,h'.fz hl hf⟩
theorem Nq {α:Type} [Rep α] {g:Gh} {l:List α} {cs:List Value} {c:Hl} (h:ORep.orep g l cs c):∃ v,cs=[v]∧OwnS g l v c:=h
theorem Hu {α:Type} [Rep α] {g:Gh} {l:List α} {v:Value} {c:Hl} (h:OwnS g l v c):ORep.orep g l [v] c:=⟨v,rfl,h⟩
section
variable {α : Type} [Rep α] [ORep α]
def rawOf {g:Gh} {x:α} {cs:List Value} {c:Hl} (h:ORep.orep g x cs c):Raw (Rep.n α):=⟨cs,ORep.olen h,ORep.oone h⟩
def OwnN (g:Gh) (l:List α) (v:Value) (c:Hl):Prop :=
  ∃ (rl:List (Raw (Rep.n α))) (ca:Hl) (ks:List Hl),OwnS g rl v ca∧c.Perm (ca++ks.flatten)∧rl.length=l.length∧ks.length=l.length ∧
    ∀ i (h:i < l.length) (h1:i < rl.length) (h2:i < ks.length),ORep.orep g l[i] rl[i].cs ks[i]
def HoleN (g:Gh) (l:List α) (v:Value) (i:Int) (cs:List Value) (ca cr:Hl):Prop :=
  0≤i∧∃ (rl:List (Raw (Rep.n α))) (ks:List Hl) (r:Raw (Rep.n α)),OwnS g rl v ca∧cr.Perm ks.flatten∧rl.length=l.length∧ks.length=l.length∧i.toNat < l.length∧at? rl i=some r∧r.cs=cs∧ks[i.toNat]? = some [] ∧
    ∀ j (h:j < l.length) (h1:j < rl.length) (h2:j < ks.length),j≠i.toNat→ORep.orep g l[j] rl[j].cs ks[j]
theorem OwnN.nil (g:Gh):OwnN g ([]:List α) (.slice Option.none 0 0) []:=⟨[],[],[],OwnS.nil g,List.Perm.refl _,rfl,rfl,fun i h=>by simp at h⟩
theorem OwnN.mono {g g':Gh} {l:List α} {v:Value} {c:Hl} (hl:Le g g') (h:OwnN g l v c):OwnN g' l v c:=by
  obtain ⟨rl,ca,ks,h1,h2,h3,h4,h5⟩:=h;exact ⟨rl,ca,ks,h1.mono hl,h2,h3,h4,fun i a b c=>ORep.omono hl (h5 i a b c)⟩
theorem HoleN.mono {g g':Gh} {l:List α} {v:Value} {i:Int} {cs:List Value} {ca cr:Hl} (hl:Le g g') (h:HoleN g l v i cs ca cr):HoleN g' l v i cs ca cr:=by
  obtain ⟨h0,rl,ks,r,h1,h2,h3,h4,h5,h6,h7,h8,h9⟩:=h;exact ⟨h0,rl,ks,r,h1.mono hl,h2,h3,h4,h5,h6,h7,h8,fun j a b c d=>ORep.omono hl (h9 j a b c d)⟩
theorem OwnN.len {g:Gh} {l:List α} {v:Value} {c:Hl} (h:OwnN g l v c):∃ a cap,v=.slice a l.length cap∧l.length≤cap:=by
  obtain ⟨rl,ca,ks,h1,h2,h3,_⟩:=h;rw [← h3];exact h1.len
theorem OwnN.one {g:Gh} {l:List α} {v:Value} {c:Hl} (h:OwnN g l v c):Nv v=true:=by
  obtain ⟨rl,ca,ks,h1,_⟩:=h;exact h1.one
theorem OwnN.csz {g:Gh} {l:List α} {v:Value} {c:Hl} (h:OwnN g l v c):v.cells.size=1:=by
  obtain ⟨rl,ca,ks,h1,_⟩:=h;exact h1.csz
theorem OwnN.cl {g:Gh} {l:List α} {v:Value} {c:Hl} (h:OwnN g l v c):v.cells.toList=[v]:=by
  obtain ⟨rl,ca,ks,h1,_⟩:=h;exact h1.cl
theorem OwnN.isSl {g:Gh} {l:List α} {v:Value} {c:Hl} (h:OwnN g l v c):IsSl v:=by
  obtain ⟨rl,ca,ks,h1,_⟩:=h;exact h1.isSl
theorem OwnN.fz {g g':Gh} {l:List α} {v:Value} {c:Hl} (hl:Le g g') (hf:Fz g' c) (h:OwnN g l v c):RepSl g' l v:=by
  obtain ⟨rl,ca,ks,h1,h2,h3,h4,h5⟩:=h;have hf':=hf.perm h2;rcases h1.fz hl hf'.left with ⟨hr,a,cap,hv⟩ | ⟨b,off,cap,c,t,fz,k1,k2,k3,k4,k5⟩
  · subst hr;have:l=[]:=by apply List.eq_nil_of_length_eq_zero;rw [← h3];rfl
    exact .inl ⟨this,a,cap,hv⟩
  · refine .inr ⟨b,off,cap,c,t,fz,by rw [← h3];exact k1,by rw [← h3];exact k2,k3,by rw [← h3];exact k4,fun i hi=>?_⟩
    have hi1:i < rl.length:=by omega
    have hi2:i < ks.length:=by omega
    have k:=k5 i hi1;have:((c.toList.drop (off+i * Rep.n α)).take (Rep.n α))=rl[i].cs:=k;rw [this];exact ORep.ofz hl (hf'.right.mem hi2) (h5 i hi hi1 hi2)
theorem OwnN.freeze {g:Gh} {l:List α} {v:Value} {c:Hl} {o:Hl} {w:World} (s:St0 g (c++o) w) (h:OwnN g l v c):RepSl (g.add c) l v:=h.fz (Le.add _ _) (Fz.add s)
theorem ev_lenOwN {g:Gh} {l:List α} {v:Value} {c:Hl} {T E:TypeId} {x:Operand} (h:OwnN g l v c) (hx:Cg e x=some v) (hT:P.underlying T=some (.slice E)) :
    Ev P n e C (.call { callee:=.builtin .len,args:=#[x],argTypes:=#[T] }) (.int .i64 l.length):=by
  obtain ⟨rl,ca,ks,h1,h2,h3,_⟩:=h;rw [← h3];exact K3 h1 hx hT
set_option linter.unusedVariables false in omit [Rep α] [ORep α] in
theorem at_len {β:Type} {l:List α} {rl:List β} {i:Int} {x:α} (hl:rl.length=l.length) (h:at? l i=some x):∃ y,at? rl i=some y:=by
  obtain ⟨h0,h1,_⟩:=Hf h;exact ⟨rl[i.toNat],by unfold at?;rw [if_pos h0];exact List.getElem?_eq_getElem (by omega)⟩
theorem Ng {g:Gh} {l:List α} {v:Value} {c:Hl} {i:Int} {z:α} {T E:TypeId} {x y:Operand} {k:IntKind} (hr:OwnN g l v c) (hi:at? l i=some z) (hT:P.underlying T=some (.slice E)) (hz:(P.info? E).map (·.size)=some (Rep.n α))
    (hx:Cg e x=some v) (hy:Cg e y=some (.int k i)):Ev P n e C (.indexAddr T x y) (Cp v i (Rep.n α)):=by
  obtain ⟨rl,ca,ks,h1,h2,h3,_⟩:=hr;obtain ⟨r,hr⟩:=at_len h3 hi;exact Hr (α:=Raw (Rep.n α)) h1 hr hT hz hx hy
theorem ev_idxH {g:Gh} {l:List α} {v:Value} {j:Int} {cs:List Value} {ca cr:Hl} {i:Int} {z:α} {T E:TypeId} {x y:Operand} {k:IntKind} (hr:HoleN g l v j cs ca cr) (hi:at? l i=some z) (hT:P.underlying T=some (.slice E)) (hz:(P.info? E).map (·.size)=some (Rep.n α))
    (hx:Cg e x=some v) (hy:Cg e y=some (.int k i)):Ev P n e C (.indexAddr T x y) (Cp v i (Rep.n α)):=by
  obtain ⟨_,rl,ks,r,h1,h2,h3,_⟩:=hr;obtain ⟨r,hr⟩:=at_len h3 hi;exact Hr (α:=Raw (Rep.n α)) h1 hr hT hz hx hy
theorem L7 {g:Gh} {l:List α} {v:Value} {c:Hl} {i:Int} {x:α} (hr:OwnN g l v c) (hi:at? l i=some x):∃ a,Cp v i (Rep.n α)=.pointer (some a):=by
  obtain ⟨rl,ca,ks,h1,h2,h3,_⟩:=hr;obtain ⟨r,hr⟩:=at_len h3 hi;exact E1 (α:=Raw (Rep.n α)) h1 hr
theorem L8 {g:Gh} {l:List α} {v:Value} {cs:List Value} {ca cr:Hl} {i:Int} (hr:HoleN g l v i cs ca cr):∃ a,Cp v i (Rep.n α)=.pointer (some a):=by
  obtain ⟨_,rl,ks,r,h1,h2,h3,h4,h5,h6,_⟩:=hr;exact E1 (α:=Raw (Rep.n α)) h1 h6
theorem M5:∀ (ks:List Hl) (i:Nat) (h:i < ks.length),ks.flatten.Perm (ks[i]++(ks.set i []).flatten)
  | k::ks,0,_=>by simp
  | k::ks,i+1,h=>by
    have h':i < ks.length:=by simpa using h
    have:=M5 ks i h';simp only [List.flatten_cons,List.getElem_cons_succ,List.set_cons_succ];refine (List.Perm.append_left k this).trans ?_;rw [← List.append_assoc,← List.append_assoc];exact List.Perm.append_right _ List.perm_append_comm
theorem OwnN.hole {g:Gh} {l:List α} {v:Value} {c:Hl} {i:Int} {x:α} (h:OwnN g l v c) (hi:at? l i=some x) :
    ∃ cs ca cr ci,HoleN g l v i cs ca cr∧ORep.orep g x cs ci∧c.Perm (ca++(cr++ci)):=by
  obtain ⟨rl,ca,ks,h1,h2,h3,h4,h5⟩:=h;obtain ⟨h0,hlt,hx⟩:=Hf hi;obtain ⟨r,hr⟩:=at_len h3 hi;obtain ⟨_,hlt1,hr1⟩:=Hf hr;have hlt2:i.toNat < ks.length:=by omega
  refine ⟨r.cs,ca,(ks.set i.toNat []).flatten,ks[i.toNat],⟨h0,rl,ks.set i.toNat [],r,h1,List.Perm.refl _,h3,by simpa using h4,hlt,hr,rfl,by simp [hlt2],?_⟩,?_,?_⟩
  · intro j a b c d;have hc:j < ks.length:=by simpa using c
    have:(ks.set i.toNat [])[j]=ks[j]:=List.getElem_set_ne (Ne.symm d) _;rw [this];exact h5 j a b hc
  · have:=h5 i.toNat hlt hlt1 hlt2;rw [hx,hr1] at this;exact this
  · refine h2.trans (List.Perm.append_left _ ?_);exact (M5 ks i.toNat hlt2).trans List.perm_append_comm
theorem HoleN.shut {g:Gh} {l:List α} {v:Value} {i:Int} {cs:List Value} {ca cr ci:Hl} {z:α} (h:HoleN g l v i cs ca cr) (hz:ORep.orep g z cs ci):OwnN g (l.set i.toNat z) v (ca++(cr++ci)):=by
  obtain ⟨h0,rl,ks,r,h1,h2,h3,h4,h5,h6,h7,h8,h9⟩:=h;subst h7;have hlt2:i.toNat < ks.length:=by omega
  obtain ⟨_,hlt1,hr1⟩:=Hf h6;refine ⟨rl,ca,ks.set i.toNat ci,h1,List.Perm.append_left _ ?_,by simpa using h3,by simpa using h4,?_⟩
  · have e1:=M5 (ks.set i.toNat ci) i.toNat (by simpa using hlt2)
    simp only [List.getElem_set_self,List.set_set] at e1
    have e2:ks.set i.toNat []=ks:=by
      apply List.ext_getElem?;intro j;by_cases hj:i.toNat=j
      · subst hj;rw [List.getElem?_set_self hlt2,h8]
      · rw [List.getElem?_set_ne hj]
    rw [e2] at e1;exact (List.Perm.append_right _ h2).trans (List.perm_append_comm.trans e1.symm)
  · intro j a b c;have hj:j < l.length:=by simpa using a
    by_cases hji:j=i.toNat
    · subst hji;simp only [List.getElem_set_self];rw [hr1];exact hz
    · rw [List.getElem_set_ne (Ne.symm hji),List.getElem_set_ne (Ne.symm hji)];exact h9 j hj b (by simpa using c) hji
theorem HoleN.shut0 {g:Gh} {l:List α} {v:Value} {i:Int} {cs:List Value} {ca cr ci:Hl} {z:α} (h:HoleN g l v i cs ca cr) (hi:at? l i=some z) (hz:ORep.orep g z cs ci):OwnN g l v (ca++(cr++ci)):=by
  have:=h.shut hz;obtain ⟨h0,hlt,hx⟩:=Hf hi
  rwa [← hx,List.set_getElem_self] at this
set_option linter.unusedVariables false in omit [Rep α] [ORep α] in
theorem Qr {l:List α} {i:Int} {x z:α} (h:at? l i=some x):at? (l.set i.toNat z) i=some z:=by
  obtain ⟨h0,hlt,_⟩:=Hf h;unfold at?;rw [if_pos h0,List.getElem?_set_self hlt]
theorem HoleN.ptr {g:Gh} {l:List α} {v:Value} {i:Int} {cs:List Value} {ca cr:Hl} (h:HoleN g l v i cs ca cr) (cks:List Hl) (fr:Hl) (k:Nat) (hk:cks[k]? = some ca):∀ w,St g cks fr w→PtrW w (Cp v i (Rep.n α)) cs:=by
  obtain ⟨h0,rl,ks,r,h1,h2,h3,h4,h5,h6,h7,h8,h9⟩:=h;subst h7;obtain ⟨cs,hcs,hp⟩:=M8 h1 h6;have:cs=r.cs:=hcs;subst this;exact hp cks fr k hk
theorem O3 {ops:Array Oper} {rest:List Oper} {o:Oper} {Q:Exit→Act→World→Prop} {a:Act} {w:World} {g:Gh} {cks:List Hl} {fr:Hl} {T:TypeId} {x y:Operand} {k:Nat} {u pv:Value} {us cs cs':List Value} {l:List α} {v:Value} {ca cr:Hl} {i:Int} (off:Nat)
    (hg:Region.wanted o (yielded ops a.tmps)=true) (ho:o.op=.store T x y) (F:Fr n a e) (S:St g cks fr w) (h:HoleN g l v i cs ca cr) (hpv:Gj (Cp v i (Rep.n α)) off=pv)
    (hx:Cg e x=some pv) (hy:Cg e y=some u) (hul:u.cells.toList=us) (hz:(P.info? T).map (·.size)=some us.length) (h1:∀ q∈us,Nv q=true)
    (hk:cks[k]? = some ca) (hl:off+us.length≤Rep.n α) (hc':cs.take off++us++cs.drop (off+us.length)=cs') (hd:o.dst=Option.none)
    (K:∀ c' w',HoleN g l v i cs' c' cr→St g (cks.set k c') fr w'→wpListIn (RW ρ) 0 P ops Q rest a w'):wpListIn (RW ρ) 0 P ops Q (o::rest) a w:=by
  obtain ⟨h0,rl,ks,r,h1',h2,h3,h4,h5,h6,h7,h8,h9⟩:=h;subst h7;have hlen:=r.len
  let r':Raw (Rep.n α):=⟨r.cs.take off++us++r.cs.drop (off+us.length),by simp;omega,by
    intro q hq;simp only [List.mem_append] at hq;rcases hq with (hq | hq) | hq
    · exact r.one q (List.mem_of_mem_take hq)
    · exact h1 q hq
    · exact r.one q (List.mem_of_mem_drop hq)⟩
  refine Mv (α:=Raw (Rep.n α)) (z':=r') off hg ho F S h1' h6 hpv hx hy hul hz h1 hk hl (fun cs h=>by
    have:cs=r.cs:=h;subst this;rfl) hd ?_
  intro c' w' ho' S';obtain ⟨_,hlt1,hr1⟩:=Hf h6;refine K c' w' ⟨h0,rl.set i.toNat r',ks,r',ho',h2,by simpa using h3,h4,h5,at_set' h6,hc',h8,?_⟩ S'
  intro j a b c d;rw [List.getElem_set_ne (Ne.symm d)];exact h9 j a (by simpa using b) c d
 where
  at_set' {l:List (Raw (Rep.n α))} {i:Int} {x z:Raw (Rep.n α)} (h:at? l i=some x):at? (l.set i.toNat z) i=some z:=by
    obtain ⟨h0,hlt,_⟩:=Hf h;unfold at?;rw [if_pos h0,List.getElem?_set_self hlt]
set_option linter.unusedVariables false in omit [Rep α] [ORep α] in
theorem getElem_app {β:Type} {xs ys:List β} {i:Nat} (h:i < (xs++ys).length):(xs++ys)[i]=if h':i < xs.length then xs[i] else ys[i - xs.length]'(by simp at h;omega):=by
  split
  · exact List.getElem_append_left ..
  · exact List.getElem_append_right (by omega)
theorem wl_appendN {ops:Array Oper} {rest:List Oper} {o:Oper} {Q:Exit→Act→World→Prop} {a:Act} {w:World} {g:Gh} {cks:List Hl} {fr:Hl} {T T' E E':TypeId} {x y:Operand} {d bytes:Nat} {z v u:Value} {c c2:Hl} {l r l':List α}
    (hg:Region.wanted o (yielded ops a.tmps)=true) (ho:o.op=.call { callee:=.builtin .append,args:=#[x,y],argTypes:=#[T,T'] }) (hT:P.underlying T=some (.slice E)) (hT':P.underlying T'=some (.slice E')) (hE:ElemT P E (Rep.n α) bytes z) (hbz:bytes≤1000000) (hbp:0 < bytes)
    (F:Fr n a e) (S:St g (c::c2::cks) fr w) (hx:Cg e x=some v) (hy:Cg e y=some u) (ho1:OwnN g l v c) (ho2:OwnN g r u c2) (hl':app? bytes l r=some l') (hd:o.dst=some d) (hn:Nat.blt d n.sz=true)
    (K:∀ v' c' a' w',OwnN g l' v' c'→St g (c'::cks) fr w'→Fr n a' ((d,v')::e)→wpListIn (RW ρ) 0 P ops Q rest a' w'):wpListIn (RW ρ) 0 P ops Q (o::rest) a w:=by
  obtain ⟨hroom,rfl⟩:=app?_some hl';obtain ⟨rl,ca,ks,h1,h2,h3,h4,h5⟩:=ho1;obtain ⟨rl2,ca2,ks2,k1,k2,k3,k4,k5⟩:=ho2
  have S2:St g (ca::ks.flatten::ca2::ks2.flatten::cks) fr w:=by
    refine St0.perm S ?_;simp only [fl];refine ((List.Perm.append h2 (List.Perm.append_right _ k2))).trans (.of_eq ?_);simp only [List.append_assoc]
  obtain ⟨cs,hcat,hrd⟩:=k1.reads;refine Dx (α:=Raw (Rep.n α)) (r:=rl2) (l':=rl++rl2) hg ho hT hT' hE hbz hbp F S2 hx hy (k:=0) rfl h1 hcat rfl (hrd _ _ _ 2 rfl S2) (by unfold app?;rw [if_pos (by rw [h3,k3];exact hroom)]) hd hn ?_
  intro v' c' a' w' ho' S' F';refine K v' (c'++(ks.flatten++ks2.flatten)) a' w' ?_ ?_ F'
  · refine ⟨rl++rl2,c',ks++ks2,ho',by simp,by simp [h3,k3],by simp [h4,k4],?_⟩
    intro i a b c;rw [getElem_app,getElem_app,getElem_app];by_cases hi:i < l.length
    · simp only [dif_pos hi,dif_pos (show i < rl.length from by omega),dif_pos (show i < ks.length from by omega)]
      exact h5 i hi _ _
    · simp only [dif_neg hi,dif_neg (show ¬ i < rl.length from by omega),dif_neg (show ¬ i < ks.length from by omega)]
      simp at a;have:=k5 (i - l.length) (by omega) (by omega) (by omega)
      simp only [h3,h4];exact this
  · have S3:St g (c'::ks.flatten::[]::ks2.flatten::cks) fr w':=St.lose 2 S';refine St0.of_eq S3 ?_;simp [fl]
theorem OwnN.of_lit {g:Gh} {l:List α} {rl:List (Raw (Rep.n α))} {v:Value} {ca:Hl} {ks:List Hl} (h:OwnS g rl v ca) (h3:rl.length=l.length) (h4:ks.length=l.length)
    (h5:∀ i (h:i < l.length) (h1:i < rl.length) (h2:i < ks.length),ORep.orep g l[i] rl[i].cs ks[i]):OwnN g l v (ca++ks.flatten):=⟨rl,ca,ks,h,List.Perm.refl _,h3,h4,h5⟩
theorem wl_lit1N {ops:Array Oper} {rest:List Oper} {o:Oper} {Q:Exit→Act→World→Prop} {a:Act} {w:World} {g:Gh} {cks:List Hl} {fr:Hl} {T E:TypeId} {x:Operand} {u:Value} {cs:List Value} {d b:Nat} {z:Value} {p:α} {ci:Hl}
    (hg:Region.wanted o (yielded ops a.tmps)=true) (ho:o.op=.buildSlice T 1 [(0,x)].toArray) (hx:Cg e x=some u) (hT:P.underlying T=some (.slice E)) (hE:ElemT P E (Rep.n α) b z)
    (hv:u.cells.size=Rep.n α) (hl:Nat.ble (1 * Rep.n α) 16777216=true) (hcs:u.cells.toList=cs) (hp:ORep.orep g p cs ci) (F:Fr n a e) (S:St g (ci::cks) fr w) (hd:o.dst=some d) (hn:Nat.blt d n.sz=true)
    (K:∀ v c a' w',OwnN g [p] v c→Fr n a' ((d,v)::e)→St g (c::cks) fr w'→wpListIn (RW ρ) 0 P ops Q rest a' w'):wpListIn (RW ρ) 0 P ops Q (o::rest) a w:=by
  have hcat:Cat g [rawOf hp] cs:=by
    have:=Cat.single (α:=Raw (Rep.n α)) (g:=g) (x:=rawOf hp) (cs:=cs) rfl;exact this
  refine Gi (α:=Raw (Rep.n α)) (l:=[rawOf hp]) (vs:=[u]) (parts:=[(0,x)]) hg ho rfl (by simp [K7,hx]) hT hE (Eg hv Gk) hl hcat (by simp [Gc,hcs]) rfl F S hd hn ?_
  intro v c a' w' h F' S';refine K v (c++ci) a' w' ?_ F' ?_
  · have:=OwnN.of_lit (l:=[p]) (rl:=[rawOf hp]) (ks:=[ci]) h rfl rfl (by
      intro i a b c;simp at a;subst a;exact hp)
    simpa using this
  · refine St0.of_eq S' ?_;simp [fl]
theorem wl_makeN {ops:Array Oper} {rest:List Oper} {o:Oper} {Q:Exit→Act→World→Prop} {a:Act} {w:World} {g:Gh} {cks:List Hl} {fr:Hl} {T E:TypeId} {x:Operand} {d b:Nat} {m:Int} {z:Value} {x0:α} {l:List α}
    (hg:Region.wanted o (yielded ops a.tmps)=true) (ho:o.op=.makeSlice T x x) (hT:P.underlying T=some (.slice E)) (hE:ElemT P E (Rep.n α) b z) (hz:∀ g,ORep.orep g x0 z.cells.toList []) (hx:Cg e x=some (.int .i64 m)) (hl:mk? b m x0=some l) (hb:0 < b)
    (F:Fr n a e) (S:St g cks fr w) (hd:o.dst=some d) (hn:Nat.blt d n.sz=true)
    (K:∀ v c a' w',OwnN g l v c→Fr n a' ((d,v)::e)→St g (c::cks) fr w'→wpListIn (RW ρ) 0 P ops Q rest a' w'):wpListIn (RW ρ) 0 P ops Q (o::rest) a w:=by
  unfold mk? at hl;split at hl
  case isFalse=>cases hl
  rename_i hm
  cases hl;refine wl_make (α:=Raw (Rep.n α)) (x0:=rawOf (hz g)) (l:=List.replicate m.toNat (rawOf (hz g))) hg ho hT hE (fun _=>rfl) hx (by unfold mk?;rw [if_pos hm]) hb F S hd hn ?_
  intro v c a' w' h F' S';refine K v c a' w' ⟨_,c,List.replicate m.toNat [],h,by simp,by simp,by simp,?_⟩ F' S'
  intro i a b c;simp only [List.getElem_replicate];exact hz g
theorem St.split3 {g:Gh} {c ca cr ci:Hl} {cks:List Hl} {fr:Hl} {w:World} (p:c.Perm (ca++(cr++ci))) (S:St g (c::cks) fr w):St g (ca::cr::ci::cks) fr w:=by
  refine St0.perm S ?_;simp only [fl];refine (List.Perm.append_right _ p).trans (.of_eq ?_);simp only [List.append_assoc]
end
theorem sub_skip {d:Nat} {v:Value}:∀ {e:List (Nat×Value)} {e':List (Nat×Value)},Sub e e'→∀ t u,L9 ((d,v)::e') t=some u→L9 ((d,v)::e) t=some u:=by
  intro e e' h t u ht;simp only [L9] at ht ⊢;cases hb:Nat.beq d t with
  | true=>rw [hb] at ht;simpa using ht
  | false=>rw [hb] at ht;exact h.look t u ht
theorem Fr.sub' {a:Act} {d:Nat} {v:Value} {e e':List (Nat×Value)} (F:Fr n a ((d,v)::e)) (h:Sub e e'):Fr n a ((d,v)::e'):=⟨F.sz,F.df,fun t u ht=>F.get t u (sub_skip h t u ht)⟩
theorem Mg {ops:Array Oper} {rest:List Oper} {o:Oper} {Q:Exit→Act→World→Prop} {a:Act} {w:World} {f:Operand} {fn:FuncId} {cap:List Value} {xs:List Operand} {vs:List Value} {A:Array TypeId} {d:Nat} {e':List (Nat×Value)}
    (hg:Region.wanted o (yielded ops a.tmps)=true) (ho:o.op=.call { callee:=.value f,args:=xs.toArray,argTypes:=A }) (hsub:Sub e e') (F:Fr n a e) (hf:Cg e f=some (.func (.func fn) #[] cap.toArray)) (hxs:xs.map (Cg e)=vs.map some)
    (hent:∀ args w,(callFunc fn args).run P w=.ok (.enter fn args) w) (hd:o.dst=some d) (hn:Nat.blt d n.sz=true)
    (hc:Calls P fn (vs++cap).toArray w (fun en w'=>∃ v,en=.returned v∧∀ a',Fr n a' ((d,v)::e')→wpListIn (RW ρ) 0 P ops Q rest a' w')):wpListIn (RW ρ) 0 P ops Q (o::rest) a w :=
  Qj (R:=fun v w'=>∀ a',Fr n a' ((d,v)::e')→wpListIn (RW ρ) 0 P ops Q rest a' w') hg ho F hf hxs hent hc hd hn fun _ a' _ h F'=>h a' (F'.sub' hsub)
end Go.Dc
