import Derived.Test.YtmaepcbnjkanhaaGreatDoorDcJ
namespace Go.Dc
open Go
variable {P : Program} {ρ : Option Nat} {n : Fw} {e : List (Nat × Value)} {C : World → Prop}
structure Raw (m:Nat) where
  cs:List Value
  len:cs.length=m
  one:∀ v∈cs,N1 v=true
instance (m:Nat):Rep (Raw m) where
  one:=fun {_ x _} h v hv=>by rw [h] at hv;exact x.one v hv
  n:=m
  rep:=fun _ x cs=>cs=x.cs
  len:=fun {_ x _} h=>by rw [h];exact x.len
  mono:=fun _ h=>h
def Fz (g:Gh) (c:Hl):Prop:=∀ p∈c,g.snap p.1=some p.2
theorem Fz.left {g:Gh} {c d:Hl} (h:Fz g (c++d)):Fz g c:=fun p hp=>h p (List.mem_append_left _ hp)
theorem Fz.right {g:Gh} {c d:Hl} (h:Fz g (c++d)):Fz g d:=fun p hp=>h p (List.mem_append_right _ hp)
theorem Fz.perm {g:Gh} {c d:Hl} (h:Fz g c) (p:c.Perm d):Fz g d:=fun q hq=>h q (p.mem_iff.2 hq)
theorem Fz.add {g:Gh} {c o:Hl} {w:World} (s:St0 g (c++o) w):Fz (g.add c) c:=fun _ hp=>Gh.add_snap s hp
theorem Fz.mem {g:Gh} {ks:List Hl} (h:Fz g ks.flatten) {i:Nat} (hi:i < ks.length):Fz g ks[i] :=
  fun q hq=>h q (List.mem_flatten.2 ⟨_,List.getElem_mem hi,hq⟩)
theorem OwnS.fz {α:Type} [Rep α] {g g':Gh} {l:List α} {v:Value} {c:Hl} (hl:Le g g') (hf:Fz g' c) (h:OwnS g l v c):RepSl g' l v:=by
  rcases h with ⟨h1,h2,h3⟩ | ⟨b,cap,arr,t,h1,h2,h3,h4,h5⟩
  · exact .inl ⟨h2,_,_,h1⟩
  · subst h2
    exact .inr ⟨b,0,cap,arr,t,(0,0),h1,h3,hf (b,.cells arr t (0,0)) (by simp),by rw [h4,Nat.zero_add];exact Nat.mul_le_mul_right _ h3,fun i hi=>by
      rw [Nat.zero_add];exact Rep.mono hl (h5 i hi)⟩
class ORep (α:Type) [Rep α] where
  orep:Gh→α→List Value→Hl→Prop
  olen:∀ {g:Gh} {x:α} {cs:List Value} {c:Hl},orep g x cs c→cs.length=Rep.n α
  omono:∀ {g g':Gh} {x:α} {cs:List Value} {c:Hl},Le g g'→orep g x cs c→orep g' x cs c
  oone:∀ {g:Gh} {x:α} {cs:List Value} {c:Hl},orep g x cs c→∀ v∈cs,N1 v=true
  ofz:∀ {g g':Gh} {x:α} {cs:List Value} {c:Hl},Le g g'→Fz g' c→orep g x cs c→Rep.rep g' x cs
instance {α:Type} [Rep α]:ORep (List α) where
  orep:=fun g l cs c=>∃ v,cs=[v]∧OwnS g l v c
  olen:=fun ⟨v,h,_⟩=>by rw [h];rfl
  omono:=fun hl ⟨v,h,h'⟩=>⟨v,h,h'.mono hl⟩
  oone:=fun ⟨v,h,h'⟩ u hu=>by rw [h] at hu;simp at hu;rw [hu];exact h'.one
  ofz:=fun hl hf ⟨v,h,h'⟩=>⟨v,h,h'.fz hl hf⟩
section
variable {α : Type} [Rep α] [ORep α]
def OwnN (g:Gh) (l:List α) (v:Value) (c:Hl):Prop :=
  ∃ (rl:List (Raw (Rep.n α))) (ca:Hl) (ks:List Hl),OwnS g rl v ca∧c.Perm (ca++ks.flatten)∧rl.length=l.length∧ks.length=l.length ∧
    ∀ i (h:i < l.length) (h1:i < rl.length) (h2:i < ks.length),ORep.orep g l[i] rl[i].cs ks[i]
def HoleN (g:Gh) (l:List α) (v:Value) (i:Int) (cs:List Value) (ca cr:Hl):Prop :=
  0≤i∧∃ (rl:List (Raw (Rep.n α))) (ks:List Hl) (r:Raw (Rep.n α)),OwnS g rl v ca∧cr.Perm ks.flatten∧rl.length=l.length∧ks.length=l.length∧i.toNat < l.length∧at? rl i=some r∧r.cs=cs∧ks[i.toNat]? = some [] ∧
    ∀ j (h:j < l.length) (h1:j < rl.length) (h2:j < ks.length),j≠i.toNat→ORep.orep g l[j] rl[j].cs ks[j]
theorem OwnN.nil (g:Gh):OwnN g ([]:List α) (.slice Option.none 0 0) []:=⟨[],[],[],OwnS.nil g,List.Perm.refl _,rfl,rfl,fun i h=>by simp at h⟩
theorem OwnN.mono {g g':Gh} {l:List α} {v:Value} {c:Hl} (hl:Le g g') (h:OwnN g l v c):OwnN g' l v c:=by
  obtain ⟨rl,ca,ks,h1,h2,h3,h4,h5⟩:=h;exact ⟨rl,ca,ks,h1.mono hl,h2,h3,h4,fun i a b c=>ORep.omono hl (h5 i a b c)⟩
theorem HoleN.mono {g g':Gh} {l:List α} {v:Value} {i:Int} {cs:List Value} {ca cr:Hl} (hl:Le g g') (h:HoleN g l v i cs ca cr):HoleN g' l v i cs ca cr:=by
  obtain ⟨h0,rl,ks,r,h1,h2,h3,h4,h5,h6,h7,h8,h9⟩:=h;exact ⟨h0,rl,ks,r,h1.mono hl,h2,h3,h4,h5,h6,h7,h8,fun j a b c d=>ORep.omono hl (h9 j a b c d)⟩
theorem OwnN.len {g:Gh} {l:List α} {v:Value} {c:Hl} (h:OwnN g l v c):∃ a cap,v=.slice a l.length cap∧l.length≤cap:=by
  obtain ⟨rl,ca,ks,h1,h2,h3,_⟩:=h;rw [← h3];exact h1.len
theorem OwnN.one {g:Gh} {l:List α} {v:Value} {c:Hl} (h:OwnN g l v c):N1 v=true:=by
  obtain ⟨rl,ca,ks,h1,_⟩:=h;exact h1.one
theorem OwnN.csz {g:Gh} {l:List α} {v:Value} {c:Hl} (h:OwnN g l v c):v.cells.size=1:=by
  obtain ⟨rl,ca,ks,h1,_⟩:=h;exact h1.csz
theorem OwnN.cl {g:Gh} {l:List α} {v:Value} {c:Hl} (h:OwnN g l v c):v.cells.toList=[v]:=by
  obtain ⟨rl,ca,ks,h1,_⟩:=h;exact h1.cl
theorem OwnN.isSl {g:Gh} {l:List α} {v:Value} {c:Hl} (h:OwnN g l v c):IsSl v:=by
  obtain ⟨rl,ca,ks,h1,_⟩:=h;exact h1.isSl
theorem OwnN.fz {g g':Gh} {l:List α} {v:Value} {c:Hl} (hl:Le g g') (hf:Fz g' c) (h:OwnN g l v c):RepSl g' l v:=by
  obtain ⟨rl,ca,ks,h1,h2,h3,h4,h5⟩:=h;have hf':=hf.perm h2;rcases h1.fz hl hf'.left with ⟨hr,a,cap,hv⟩ | ⟨b,off,cap,c,t,fz,k1,k2,k3,k4,k5⟩
  · subst hr;have:l=[]:=by apply List.eq_nil_of_length_eq_zero;rw [← h3];rfl
    exact .inl ⟨this,a,cap,hv⟩
  · refine .inr ⟨b,off,cap,c,t,fz,by rw [← h3];exact k1,by rw [← h3];exact k2,k3,by rw [← h3];exact k4,fun i hi=>?_⟩
    have hi1:i < rl.length:=by omega
    have hi2:i < ks.length:=by omega
    have k:=k5 i hi1;have:((c.toList.drop (off+i * Rep.n α)).take (Rep.n α))=rl[i].cs:=k;rw [this];exact ORep.ofz hl (hf'.right.mem hi2) (h5 i hi hi1 hi2)
theorem OwnN.freeze {g:Gh} {l:List α} {v:Value} {c:Hl} {o:Hl} {w:World} (s:St0 g (c++o) w) (h:OwnN g l v c):RepSl (g.add c) l v:=h.fz (Le.add _ _) (Fz.add s)
theorem flatten_set_nil:∀ (ks:List Hl) (i:Nat) (h:i < ks.length),ks.flatten.Perm (ks[i]++(ks.set i []).flatten)
  | k::ks,0,_=>by simp
  | k::ks,i+1,h=>by
    have h':i < ks.length:=by simpa using h
    have:=flatten_set_nil ks i h';simp only [List.flatten_cons,List.getElem_cons_succ,List.set_cons_succ];refine (List.Perm.append_left k this).trans ?_;rw [← List.append_assoc,← List.append_assoc];exact List.Perm.append_right _ List.perm_append_comm
theorem HoleN.shut {g:Gh} {l:List α} {v:Value} {i:Int} {cs:List Value} {ca cr ci:Hl} {z:α} (h:HoleN g l v i cs ca cr) (hz:ORep.orep g z cs ci):OwnN g (l.set i.toNat z) v (ca++(cr++ci)):=by
  obtain ⟨h0,rl,ks,r,h1,h2,h3,h4,h5,h6,h7,h8,h9⟩:=h;subst h7;have hlt2:i.toNat < ks.length:=by omega
  obtain ⟨_,hlt1,hr1⟩:=Lj h6;refine ⟨rl,ca,ks.set i.toNat ci,h1,List.Perm.append_left _ ?_,by simpa using h3,by simpa using h4,?_⟩
  · have e1:=flatten_set_nil (ks.set i.toNat ci) i.toNat (by simpa using hlt2)
    simp only [List.getElem_set_self,List.set_set] at e1
    have e2:ks.set i.toNat []=ks:=by
      apply List.ext_getElem?;intro j;by_cases hj:i.toNat=j
      · subst hj;rw [List.getElem?_set_self hlt2,h8]
      · rw [List.getElem?_set_ne hj]
    rw [e2] at e1;exact (List.Perm.append_right _ h2).trans (List.perm_append_comm.trans e1.symm)
  · intro j a b c;have hj:j < l.length:=by simpa using a
    by_cases hji:j=i.toNat
    · subst hji;simp only [List.getElem_set_self];rw [hr1];exact hz
    · rw [List.getElem_set_ne (Ne.symm hji),List.getElem_set_ne (Ne.symm hji)];exact h9 j hj b (by simpa using c) hji
set_option linter.unusedVariables false in omit [Rep α] [ORep α] in
theorem Qv {l:List α} {i:Int} {x z:α} (h:at? l i=some x):at? (l.set i.toNat z) i=some z:=by
  obtain ⟨h0,hlt,_⟩:=Lj h;unfold at?;rw [if_pos h0,List.getElem?_set_self hlt]
theorem HoleN.ptr {g:Gh} {l:List α} {v:Value} {i:Int} {cs:List Value} {ca cr:Hl} (h:HoleN g l v i cs ca cr) (cks:List Hl) (fr:Hl) (k:Nat) (hk:cks[k]? = some ca):∀ w,St g cks fr w→PtrW w (E9 v i (Rep.n α)) cs:=by
  obtain ⟨h0,rl,ks,r,h1,h2,h3,h4,h5,h6,h7,h8,h9⟩:=h;subst h7;obtain ⟨cs,hcs,hp⟩:=H2 h1 h6;have:cs=r.cs:=hcs;subst this;exact hp cks fr k hk
end
theorem sub_skip {d:Nat} {v:Value}:∀ {e:List (Nat×Value)} {e':List (Nat×Value)},Sub e e'→∀ t u,Lu ((d,v)::e') t=some u→Lu ((d,v)::e) t=some u:=by
  intro e e' h t u ht;simp only [Lu] at ht ⊢;cases hb:Nat.beq d t with
  | true=>rw [hb] at ht;simpa using ht
  | false=>rw [hb] at ht;exact h.look t u ht
theorem Fr.sub' {a:Act} {d:Nat} {v:Value} {e e':List (Nat×Value)} (F:Fr n a ((d,v)::e)) (h:Sub e e'):Fr n a ((d,v)::e'):=⟨F.sz,F.df,fun t u ht=>F.get t u (sub_skip h t u ht)⟩
theorem Qa {ops:Array Oper} {rest:List Oper} {o:Oper} {Q:Exit→Act→World→Prop} {a:Act} {w:World} {f:Operand} {fn:FuncId} {cap:List Value} {xs:List Operand} {vs:List Value} {A:Array TypeId} {d:Nat} {e':List (Nat×Value)}
    (hg:Region.wanted o (yielded ops a.tmps)=true) (ho:o.op=.call { callee:=.value f,args:=xs.toArray,argTypes:=A }) (hsub:Sub e e') (F:Fr n a e) (hf:B5 e f=some (.func (.func fn) #[] cap.toArray)) (hxs:xs.map (B5 e)=vs.map some)
    (hent:∀ args w,(callFunc fn args).run P w=.ok (.enter fn args) w) (hd:o.dst=some d) (hn:Nat.blt d n.sz=true)
    (hc:Calls P fn (vs++cap).toArray w (fun en w'=>∃ v,en=.returned v∧∀ a',Fr n a' ((d,v)::e')→wpListIn (RW ρ) 0 P ops Q rest a' w')):wpListIn (RW ρ) 0 P ops Q (o::rest) a w :=
  wl_call (R:=fun v w'=>∀ a',Fr n a' ((d,v)::e')→wpListIn (RW ρ) 0 P ops Q rest a' w') hg ho F hf hxs hent hc hd hn fun _ a' _ h F'=>h a' (F'.sub' hsub)
end Go.Dc
