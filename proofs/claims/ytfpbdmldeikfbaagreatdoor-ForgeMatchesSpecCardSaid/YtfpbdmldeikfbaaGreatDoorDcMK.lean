import Derived.Test.YtfpbdmldeikfbaaGreatDoorDcO
set_option linter.unusedSimpArgs false
set_option linter.unusedVariables false
namespace Go.Dc
open Go
structure It where
 i:Nat
 d:Nat
 o:Oper
 Φ:Value→Hl→Prop
abbrev Sl:=List (Option (Value×Hl))
def eOf:List It→Sl→List (Nat×Value)
 | x::L,some p::s=>(x.d,p.1)::eOf L s
 | _::L,Option.none::s=>eOf L s
 | _,_=>[]
def cOf:Sl→List Hl
 | some p::s=>p.2::cOf s
 | Option.none::s=>cOf s
 | []=>[]
def iOf:List Nat→List Bool→List Nat
 | x::L,true::s=>x::iOf L s
 | _::L,false::s=>iOf L s
 | _,_=>[]
def nOf:List Nat→List Bool→List Nat
 | x::L,false::s=>x::nOf L s
 | _::L,true::s=>nOf L s
 | _,_=>[]
def AllF:List It→Sl→Prop
 | x::L,some p::s=>x.Φ p.1 p.2∧AllF L s
 | _::L,Option.none::s=>AllF L s
 | _,_=>True
def masks:Nat→List (List Bool)
 | 0=>[[]]
 | k+1=>(masks k).map (true :: ·)++(masks k).map (false :: ·)
theorem mem_masks:∀ m:List Bool,m∈masks m.length
 | []=>by simp [masks]
 | b::m=>by
  have:=mem_masks m;cases b <;> simp [masks,this]
def bOf (s:Sl):List Bool:=s.map (·.isSome)
theorem nOf_mem {i:Nat}:∀ (L:List It) (s:Sl),i∈nOf (L.map (·.i)) (bOf s)→∃ (k:Nat) (x:It),L[k]? = some x∧x.i=i∧s[k]? = some Option.none
 | [],s,h=>by simp [nOf] at h
 | x::L,[],h=>by simp [bOf,nOf] at h
 | x::L,Option.none::s,h=>by
  simp only [bOf,Dg,Option.isSome_none,nOf,Bf] at h;rcases h with rfl | h
  ·exact ⟨0,x,rfl,rfl,rfl⟩
  ·obtain ⟨k,y,h1,h2,h3⟩:=nOf_mem L s h;exact ⟨k+1,y,by simpa using h1,h2,by simpa using h3⟩
 | x::L,some p::s,h=>by
  simp only [bOf,Dg,Option.isSome_some,nOf] at h;obtain ⟨k,y,h1,h2,h3⟩:=nOf_mem L s h;exact ⟨k+1,y,by simpa using h1,h2,by simpa using h3⟩
theorem iOf_set {x:It} {p:Value×Hl} (j:Nat):∀ (L:List It) (s:Sl) (k:Nat),L[k]? = some x→s[k]? = some Option.none →
  (j∈iOf (L.map (·.i)) (bOf (s.set k (some p)))↔j=x.i∨j∈iOf (L.map (·.i)) (bOf s))
 | [],_,_,h,_=>by simp at h
 | _::_,[],_,_,h=>by simp at h
 | y::L,o::s,0,h,h'=>by
  simp at h h';subst h;subst h';simp [bOf,iOf]
 | y::L,o::s,k+1,h,h'=>by
  have ih:=iOf_set (x:=x) (p:=p) j L s k (by simpa using h) (by simpa using h')
  cases o
  ·simpa [bOf,iOf] using ih
  ·simp only [bOf,iOf,Dg,List.set_cons_succ,Option.isSome_some,Bf] at ih ⊢;rw [ih];constructor
   ·rintro (a | a | a) <;> simp [a]
   ·rintro (a | a | a) <;> simp [a]
theorem AllF_set {x:It} {p:Value×Hl} (hp:x.Φ p.1 p.2):∀ (L:List It) (s:Sl) (k:Nat),L[k]? = some x→AllF L s→AllF L (s.set k (some p))
 | [],_,_,_,_=>trivial
 | _::_,[],_,_,_=>trivial
 | y::L,o::s,0,h,h'=>by
  simp at h;subst h;cases o
  ·exact ⟨hp,h'⟩
  ·exact ⟨hp,h'.2⟩
 | y::L,o::s,k+1,h,h'=>by
  cases o
  ·exact AllF_set hp L s k (by simpa using h) h'
  ·exact ⟨h'.1,AllF_set hp L s k (by simpa using h) h'.2⟩
theorem cOf_set {p:Value×Hl} {r:List Hl} {fr:Hl}:∀ (s:Sl) (k:Nat),s[k]? = some Option.none→(fl (p.2::(cOf s++r)) fr).Perm (fl (cOf (s.set k (some p))++r) fr)
 | [],_,h=>by simp at h
 | o::s,0,h=>by simp at h;subst h;exact Ko _
 | Option.none::s,k+1,h=>cOf_set s k (by simpa using h)
 | some q::s,k+1,h=>by
  have ih:=cOf_set (p:=p) (r:=r) (fr:=fr) s k (by simpa using h)
  show (p.2++(q.2++fl (cOf s++r) fr)).Perm (q.2++fl (cOf (s.set k (some p))++r) fr);refine List.Perm.trans ?_ (Ee q.2 ih);show (p.2++(q.2++fl (cOf s++r) fr)).Perm (q.2++(p.2++fl (cOf s++r) fr));rw [← Am,← Am];exact E2 _ E5
def Xt (e e':List (Nat×Value)):Prop:=∀ t v,Kf e' t=some v→Kf e t=some v
theorem Xt.ev {e e':List (Nat×Value)} (h:Xt e e') {x:Operand} {v:Value} (hx:Bn e' x=some v):Bn e x=some v:=by
 cases x with
 | tmp t=>exact h t v hx
 | _=>exact hx
theorem look_dif {p:Nat×Value} {r:List (Nat×Value)} {t:Nat} (h:p.1≠t):Kf (p::r) t=Kf r t:=by
 rw [Wp];cases hb:Nat.beq p.1 t with
 | true=>exact absurd (Nat.eq_of_beq_eq_true hb) h
 | false=>rfl
theorem look_same {p:Nat×Value} {r:List (Nat×Value)}:Kf (p::r) p.1=some p.2:=by
 rw [Wp,Nat.beq_refl];rfl
theorem eOf_set {x:It} {p:Value×Hl} {r:List (Nat×Value)} (t:Nat):∀ (L:List It) (s:Sl) (k:Nat),(L.map (·.d)).Nodup→L[k]? = some x→s[k]? = some Option.none →
  Kf (eOf L (s.set k (some p))++r) t=Kf ((x.d,p.1)::(eOf L s++r)) t
 | [],_,_,_,h,_=>by simp at h
 | _::_,[],_,_,_,h=>by simp at h
 | y::L,o::s,0,_,h,h'=>by
  simp at h h';subst h;subst h';rfl
 | y::L,Option.none::s,k+1,hn,h,h'=>eOf_set t L s k (List.nodup_cons.1 hn).2 (by simpa using h) (by simpa using h')
 | y::L,some q::s,k+1,hn,h,h'=>by
  have ih:=eOf_set (p:=p) (r:=r) t L s k (List.nodup_cons.1 hn).2 (by simpa using h) (by simpa using h')
  have hx:x∈L:=List.mem_of_getElem? (by simpa using h:L[k]? = some x)
  have hd:y.d≠x.d:=fun hd=>(List.nodup_cons.1 hn).1 (G9.2 ⟨x,hx,hd.symm⟩);show Kf ((y.d,q.1)::(eOf L (s.set k (some p))++r)) t=Kf ((x.d,p.1)::(y.d,q.1)::(eOf L s++r)) t;by_cases h1:y.d=t
  ·subst h1;rw [look_same (p:=(y.d,q.1)),look_dif (p:=(x.d,p.1)) (fun e=>hd e.symm),look_same (p:=(y.d,q.1))]
  ·rw [look_dif (p:=(y.d,q.1)) h1,ih];by_cases h2:x.d=t
   ·subst h2;rw [look_same (p:=(x.d,p.1)),look_same (p:=(x.d,p.1))]
   ·rw [look_dif (p:=(x.d,p.1)) h2,look_dif (p:=(x.d,p.1)) h2,look_dif (p:=(y.d,q.1)) h1]
theorem eOf_xt {e0:List (Nat×Value)}:∀ (L:List It) (s:Sl),(∀ x∈L,Kf e0 x.d=Option.none)→Xt (eOf L s++e0) e0
 | [],s,_=>by cases s <;> exact fun _ _ h=>h
 | _::_,[],_=>fun _ _ h=>h
 | y::L,Option.none::s,h=>eOf_xt L s fun x hx=>h x (Bk _ hx)
 | y::L,some q::s,h=>fun t v ht=>by
  show Kf ((y.d,q.1)::(eOf L s++e0)) t=some v;rw [look_dif (p:=(y.d,q.1)) (fun hd=>by rw [← hd,h y Ce] at ht;cases ht)]
  exact eOf_xt L s (fun x hx=>h x (Bk _ hx)) t v ht
theorem cnt_set {p:Value×Hl}:∀ (s:Sl) (k:Nat),s[k]? = some Option.none→(s.set k (some p)).countP (·.isNone) < s.countP (·.isNone)
 | [],_,h=>by simp at h
 | o::s,0,h=>by simp at h;subst h;simp
 | o::s,k+1,h=>by
  have:=cnt_set (p:=p) s k (by simpa using h)
  simp only [List.set_cons_succ,List.countP_cons];omega
section
variable {P : Program} {ρ : Option Nat} {n : Fw} {g : Gh} {fr : Hl} {e0 : List (Nat × Value)} {r : List Hl} {ops : List Oper} {Q : Exit → Act → World → Prop} {D0 : List Nat}
def MkO (P:Program) (ρ:Option Nat) (n:Fw) (ops:List Oper) (g:Gh) (fr:Hl) (e0:List (Nat×Value)) (x:It):Prop:=ops[x.i]? = some x.o∧∀ (e:List (Nat×Value)) (cks:List Hl) (Q:Exit→Act→World→Prop) (a:Act) (w:World),Xt e e0→Fr n a e→St g cks fr w →
 (∀ v c a' w',x.Φ v c→Fr n a' ((x.d,v)::e)→St g (c::cks) fr w'→wpListIn (RW ρ) 0 P ops.toArray Q [] a' w')→wpListIn (RW ρ) 0 P ops.toArray Q [x.o] a w
def AllO (P:Program) (ρ:Option Nat) (n:Fw) (ops:List Oper) (g:Gh) (fr:Hl) (e0:List (Nat×Value)):List It→Prop
 | []=>True
 | x::L=>MkO P ρ n ops g fr e0 x∧AllO P ρ n ops g fr e0 L
theorem AllO.at {L:List It} (h:AllO P ρ n ops g fr e0 L) {x:It} (hx:x∈L):MkO P ρ n ops g fr e0 x:=by
 induction L with
 | nil=>cases hx
 | cons y L ih =>
  rcases Bf.1 hx with rfl | hx
  ·exact h.1
  ·exact ih h.2 hx
theorem dv_mks (L:List It) (stop:List Bool→Bool) (ok:OkV ops []) (ho:AllO P ρ n ops g fr e0 L) (hd:(L.map (·.d)).Nodup) (he:(L.map (·.d)).all (fun d=>(Kf e0 d).isNone)=true)
  (hR:((masks L.length).all fun m=>stop m || (okAlone ops (iOf (L.map (·.i)) m++D0) (nOf (L.map (·.i)) m) && !(nOf (L.map (·.i)) m).isEmpty))=true)
  (fin:∀ (s:Sl) (a:Act) (w:World),s.length=L.length→stop (bOf s)=true→AllF L s→Fr n a (eOf L s++e0)→St g (cOf s++r) fr w→DV P ρ ops [] Q (iOf (L.map (·.i)) (bOf s)++D0) [] a w) :
  ∀ (k:Nat) (s:Sl),s.countP (·.isNone)≤k→s.length=L.length→AllF L s→∀ (a:Act) (w:World),Fr n a (eOf L s++e0)→St g (cOf s++r) fr w→DV P ρ ops [] Q (iOf (L.map (·.i)) (bOf s)++D0) [] a w:=by
 intro k
 induction k with
 | zero =>
  intro s hk hl hA a w F S;by_cases hst:stop (bOf s)=true
  ·exact fin s a w hl hst hA F S
  ·exfalso;have:=List.all_eq_true.1 hR _ (by rw [← hl,show s.length=(bOf s).length by simp [bOf]];exact mem_masks _)
   simp only [hst,Ki,Cv,Bool.not_eq_true',List.isEmpty_eq_false_iff,A6] at this;obtain ⟨i,hi⟩:=List.exists_mem_of_ne_nil _ this.2;obtain ⟨j,x,_,_,h3⟩:=nOf_mem L s hi;have:=cnt_set (p:=(undef,[])) s j h3;omega
 | succ k ih =>
  intro s hk hl hA a w F S;by_cases hst:stop (bOf s)=true
  ·exact fin s a w hl hst hA F S
  ·have h0:=List.all_eq_true.1 hR _ (by rw [← hl,show s.length=(bOf s).length by simp [bOf]];exact mem_masks _)
   simp only [hst,Ki,Cv,Bool.not_eq_true',List.isEmpty_eq_false_iff,A6] at h0;refine DV.noisy ok h0.1 h0.2 fun i hi o hio=>⟨[],by simp,?_⟩
   obtain ⟨j,x,h1,h2,h3⟩:=nOf_mem L s hi;have hx:x∈L:=List.mem_of_getElem? h1;obtain ⟨h4,h5⟩:=ho.at hx;subst h2;rw [h4] at hio;cases hio;refine h5 _ _ _ a w (eOf_xt L s fun y hy=>?_) F S fun v c a' w' hΦ F' S'=>?_
   ·have:=List.all_eq_true.1 he _ (Kp hy);simpa using this
   ·refine H5 trivial ?_;refine DV.same (D':=iOf (L.map (·.i)) (bOf (s.set j (some (v,c))))++D0) (fun y=>?_) ?_
    ·rw [Az,iOf_set y L s j h1 h3,Bf,Az];exact or_assoc.symm
    ·have:=cnt_set (p:=(v,c)) s j h3;refine ih _ (by omega) (by rw [Ls];exact hl) (AllF_set hΦ L s j h1 hA) a' w' ⟨F'.sz,F'.df,fun t u ht=>F'.get t u ?_⟩ (St0.perm S' (cOf_set (p:=(v,c)) s j h3))
     rw [eOf_set t L s j hd h1 h3] at ht;exact ht
theorem dv_mk6 {x0 x1 x2 x3 x4 x5:It} {is ds:List Nat} {a:Act} {w:World} (ok:OkV ops []) (F:Fr n a e0) (S:St g r fr w) (ho:AllO P ρ n ops g fr e0 [x0,x1,x2,x3,x4,x5])
  (h0:∀ v0 c0 v1 c1 v2 c2 v3 c3 v4 c4 v5 c5 a w,x0.Φ v0 c0→x1.Φ v1 c1→x2.Φ v2 c2→x3.Φ v3 c3→x4.Φ v4 c4→x5.Φ v5 c5→Fr n a ((x0.d,v0)::(x1.d,v1)::(x2.d,v2)::(x3.d,v3)::(x4.d,v4)::(x5.d,v5)::e0)→St g (c0::c1::c2::c3::c4::c5::r) fr w→DV P ρ ops [] Q (x0.i::x1.i::x2.i::x3.i::x4.i::x5.i::D0) [] a w)
  (h1:∀ v0 c0 v1 c1 v2 c2 v3 c3 v4 c4 a w,x0.Φ v0 c0→x1.Φ v1 c1→x2.Φ v2 c2→x3.Φ v3 c3→x4.Φ v4 c4→Fr n a ((x0.d,v0)::(x1.d,v1)::(x2.d,v2)::(x3.d,v3)::(x4.d,v4)::e0)→St g (c0::c1::c2::c3::c4::r) fr w→DV P ρ ops [] Q (x0.i::x1.i::x2.i::x3.i::x4.i::D0) [] a w)
  (hi:[x0,x1,x2,x3,x4,x5].map (·.i)=is:=by exact rfl) (hs:[x0,x1,x2,x3,x4,x5].map (·.d)=ds:=by exact rfl) (hd:ds.Nodup:=by decide) (he:ds.all (fun d=>(Kf e0 d).isNone)=true:=by exact rfl)
  (hR:((masks 6).all fun m=>(m.take 5).all id || (okAlone ops (iOf is m++D0) (nOf is m) && !(nOf is m).isEmpty))=true:=by decide +kernel):DV P ρ ops [] Q D0 [] a w:=by
 subst hi;subst hs;refine dv_mks (r:=r) [x0,x1,x2,x3,x4,x5] (fun m=>(m.take 5).all id) ok ho hd he hR ?_ 6 [Option.none,Option.none,Option.none,Option.none,Option.none,Option.none] (by decide) rfl trivial a w F S
 intro s a w hl hs hA F S
 match s,hl with
 | [a0,a1,a2,a3,a4,a5],_ =>
  cases a0 with
  | none=>cases hs
  | some p0=>cases a1 with
   | none=>cases hs
   | some p1=>cases a2 with
    | none=>cases hs
    | some p2=>cases a3 with
     | none=>cases hs
     | some p3=>cases a4 with
      | none=>cases hs
      | some p4=>cases a5 with
       | none=>exact h1 _ _ _ _ _ _ _ _ _ _ a w hA.1 hA.2.1 hA.2.2.1 hA.2.2.2.1 hA.2.2.2.2.1 F S
       | some p5=>exact h0 _ _ _ _ _ _ _ _ _ _ _ _ a w hA.1 hA.2.1 hA.2.2.1 hA.2.2.2.1 hA.2.2.2.2.1 hA.2.2.2.2.2.1 F S
end
end Go.Dc
