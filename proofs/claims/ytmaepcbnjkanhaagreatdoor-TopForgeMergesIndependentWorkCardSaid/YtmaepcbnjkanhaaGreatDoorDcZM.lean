import Derived.Test.YtmaepcbnjkanhaaGreatDoorDcZ
import Derived.MapKept
import Derived.WideKeyRuns
set_option linter.unusedVariables false
namespace Go.Dc
open Go
variable {P : Program} {ρ : Option Nat} {n : Fw} {e : List (Nat × Value)} {C : World → Prop}
abbrev K2:=Int×Int
def keyV (k:K2):Value:=.agg #[.int .i64 k.1,.int .i64 k.2]
structure Key2 (P:Program) (K I:TypeId) (n1 n2:String):Prop where
  str:P.underlying K=some (.struct (P.fieldsOf K))
  held:P.stoodInHeld K=false
  flds:(P.fieldsOf K).toList.map (fun f=>(f.name,f.type,f.offset))=[(n1,I,0),(n2,I,1)]
  ne1 : n1 ≠ "_"
  ne2 : n2 ≠ "_"
  int:P.underlying I=some (.int .i64)
theorem Key2.eq {K I:TypeId} {n1 n2:String} (h:Key2 P K I n1 n2) (a b:K2) (w:World):(Op.equal K (keyV a) (keyV b)).run P w=.ok (decide (a=b)) w:=by
  have h1:O8 P [.int .i64 a.1,.int .i64 a.2] [.int .i64 b.1,.int .i64 b.2] [(n1,I,0),(n2,I,1)] [decide (a.1=b.1),decide (a.2=b.2)] :=
    ⟨_,_,rfl,h.ne1,⟨_,_,rfl,rfl,B2 h.int⟩,_,_,rfl,h.ne2,⟨_,_,rfl,rfl,B2 h.int⟩,rfl⟩
  have:=run_eqS h.str h.held h.flds h1 w;refine this.trans ?_;congr 1;simp only [allB];rw [Bool.eq_iff_iff];simp [Prod.ext_iff]
def mget {β:Type}:List (K2×β)→K2→Option β
  | [],_=>Option.none
  | p::r,k=>if p.1=k then some p.2 else mget r k
def mput {β:Type}:List (K2×β)→K2→β→List (K2×β)
  | [],k,v=>[(k,v)]
  | p::r,k,v=>if p.1=k then (p.1,v)::r else p::mput r k v
def EntR (es:List MapEntry) (l:List (K2×Value)):Prop:=es.map (fun e=>(e.key,e.val))=l.map fun p=>(keyV p.1,p.2)
theorem EntR.cons {x:MapEntry} {es:List MapEntry} {l:List (K2×Value)} (h:EntR (x::es) l):∃ p r,l=p::r∧x.key=keyV p.1∧x.val=p.2∧EntR es r:=by
  cases l with
  | nil=>simp [EntR] at h
  | cons p r =>
    simp only [EntR,List.map_cons,List.cons.injEq,Prod.mk.injEq] at h;exact ⟨p,r,rfl,h.1.1,h.1.2,h.2⟩
abbrev mb (b:Nat) (es:Array MapEntry) (clock:Nat):Hl:=[(b,.map es clock)]
def OwnB (g:Gh) (l:List (K2×Bool)) (v:Value) (c:Hl):Prop:=∃ b es clock,v=.map (some b)∧c=mb b es clock∧EntR es.toList (l.map fun p=>(p.1,Value.bool p.2))
theorem OwnB.mono {g g':Gh} {l:List (K2×Bool)} {v:Value} {c:Hl} (hl:Le g g') (h:OwnB g l v c):OwnB g' l v c:=h
theorem OwnB.one {g:Gh} {l:List (K2×Bool)} {v:Value} {c:Hl} (h:OwnB g l v c):Ny v=true:=by obtain ⟨b,es,clock,rfl,_⟩:=h;rfl
theorem OwnB.cl {g:Gh} {l:List (K2×Bool)} {v:Value} {c:Hl} (h:OwnB g l v c):v.cells.toList=[v]:=by obtain ⟨b,es,clock,rfl,_⟩:=h;rfl
theorem OwnB.csz {g:Gh} {l:List (K2×Bool)} {v:Value} {c:Hl} (h:OwnB g l v c):v.cells.size=1:=by obtain ⟨b,es,clock,rfl,_⟩:=h;rfl
section
variable {α : Type} [Rep α]
def Rows (g:Gh):List (K2×Option (List α))→List (K2×Value)→Hl→Prop
  | [],vl,c=>vl=[]∧c=[]
  | (k,Option.none)::r,vl,c=>∃ v vr,vl=(k,v)::vr∧Rows g r vr c
  | (k,some l)::r,vl,c=>∃ v c1 vr cr,vl=(k,v)::vr∧c=c1++cr∧OwnS g l v c1∧Rows g r vr cr
theorem Rows.mono {g g':Gh} (hl:Le g g'):∀ {l:List (K2×Option (List α))} {vl:List (K2×Value)} {c:Hl},Rows g l vl c→Rows g' l vl c
  | [],_,_,h=>h
  | (k,Option.none)::r,_,_,h=>by
    obtain ⟨v,vr,h1,h2⟩:=h;exact ⟨v,vr,h1,Rows.mono hl h2⟩
  | (k,some l)::r,_,_,h=>by
    obtain ⟨v,c1,vr,cr,h1,h2,h3,h4⟩:=h;exact ⟨v,c1,vr,cr,h1,h2,h3.mono hl,Rows.mono hl h4⟩
def lookM {α:Type} (l:List (K2×Option (List α))) (k:K2):Option (List α) :=
  match mget l k with
  | Option.none=>some []
  | some o=>o
def deadM {α:Type} (l:List (K2×Option (List α))) (k:K2):List (K2×Option (List α)) :=
  match mget l k with
  | Option.none=>l
  | some _=>mput l k Option.none
theorem Rows.out {g:Gh} (k:K2):∀ {l:List (K2×Option (List α))} {vl:List (K2×Value)} {c:Hl},Rows g l vl c→∀ x,lookM l k=some x →
    ∃ u c1 c2,(mget vl k).getD (.slice Option.none 0 0)=u∧OwnS g x u c1∧Rows g (deadM l k) vl c2∧c.Perm (c1++c2)
  | [],vl,c,h,x,hx=>by
    obtain ⟨rfl,rfl⟩:=h;simp [lookM,mget] at hx;subst hx;exact ⟨_,[],[],rfl,OwnS.nil g,⟨rfl,rfl⟩,List.Perm.refl _⟩
  | (k',o)::r,vl,c,h,x,hx=>by
    by_cases hk:k'=k
    · subst hk;cases o with
      | none=>simp [lookM,mget] at hx
      | some l' =>
        simp [lookM,mget] at hx;subst hx;obtain ⟨v,c1,vr,cr,rfl,rfl,h3,h4⟩:=h;exact ⟨v,c1,cr,by simp [mget],h3,by simp only [deadM,mget,if_true,mput];exact ⟨v,vr,rfl,h4⟩,List.Perm.refl _⟩
    · have hx':lookM r k=some x:=by simpa [lookM,mget,hk] using hx
      have hd:deadM ((k',o)::r) k=(k',o)::deadM r k:=by
        simp only [deadM,mget,if_neg hk];split <;> simp [mput,hk]
      rw [hd];cases o with
      | none =>
        obtain ⟨v,vr,rfl,h2⟩:=h;obtain ⟨u,c1,c2,e1,e2,e3,e4⟩:=Rows.out k h2 x hx';exact ⟨u,c1,c2,by simpa [mget,hk] using e1,e2,⟨v,vr,rfl,e3⟩,e4⟩
      | some l' =>
        obtain ⟨v,c0,vr,cr,rfl,rfl,h3,h4⟩:=h;obtain ⟨u,c1,c2,e1,e2,e3,e4⟩:=Rows.out k h4 x hx';refine ⟨u,c1,c0++c2,by simpa [mget,hk] using e1,e2,⟨v,c0,vr,c2,rfl,rfl,h3,e3⟩,?_⟩
        exact (List.Perm.append_left c0 e4).trans (by rw [← List.append_assoc,← List.append_assoc];exact List.Perm.append_right _ List.perm_append_comm)
theorem Rows.put {g:Gh} (k:K2) {x:List α} {u:Value} {c1:Hl} (hu:OwnS g x u c1):∀ {l:List (K2×Option (List α))} {vl:List (K2×Value)} {c:Hl},Rows g l vl c →
    ∃ c' cl,Rows g (mput l k (some x)) (mput vl k u) c'∧(c++c1).Perm (cl++c')
  | [],vl,c,h=>by
    obtain ⟨rfl,rfl⟩:=h;exact ⟨c1,[],⟨u,c1,[],[],rfl,by simp,hu,rfl,rfl⟩,by simp⟩
  | (k',o)::r,vl,c,h=>by
    by_cases hk:k'=k
    · subst hk;cases o with
      | none =>
        obtain ⟨v,vr,rfl,h2⟩:=h;refine ⟨c1++c,[],?_,by simpa using List.perm_append_comm⟩
        simp only [mput,if_true];exact ⟨u,c1,vr,c,rfl,rfl,hu,h2⟩
      | some l' =>
        obtain ⟨v,c0,vr,cr,rfl,rfl,h3,h4⟩:=h;refine ⟨c1++cr,c0,?_,?_⟩
        · simp only [mput,if_true];exact ⟨u,c1,vr,cr,rfl,rfl,hu,h4⟩
        · rw [List.append_assoc];exact List.Perm.append_left _ List.perm_append_comm
    · simp only [mput,if_neg hk];cases o with
      | none =>
        obtain ⟨v,vr,rfl,h2⟩:=h;obtain ⟨c',cl,e1,e2⟩:=Rows.put k hu h2;exact ⟨c',cl,by simp only [mput,if_neg hk];exact ⟨v,_,rfl,e1⟩,e2⟩
      | some l' =>
        obtain ⟨v,c0,vr,cr,rfl,rfl,h3,h4⟩:=h;obtain ⟨c',cl,e1,e2⟩:=Rows.put k hu h4;refine ⟨c0++c',cl,by simp only [mput,if_neg hk];exact ⟨v,c0,_,c',rfl,rfl,h3,e1⟩,?_⟩
        rw [List.append_assoc];refine (List.Perm.append_left c0 e2).trans ?_;rw [← List.append_assoc,← List.append_assoc];exact List.Perm.append_right _ List.perm_append_comm
def OwnR (g:Gh) (l:List (K2×Option (List α))) (v:Value) (c:Hl):Prop:=∃ b es clock vl cr,v=.map (some b)∧c=mb b es clock++cr∧EntR es.toList vl∧Rows g l vl cr
theorem OwnR.mono {g g':Gh} {l:List (K2×Option (List α))} {v:Value} {c:Hl} (hl:Le g g') (h:OwnR g l v c):OwnR g' l v c:=by
  obtain ⟨b,es,clock,vl,cr,h1,h2,h3,h4⟩:=h;exact ⟨b,es,clock,vl,cr,h1,h2,h3,h4.mono hl⟩
theorem OwnR.one {g:Gh} {l:List (K2×Option (List α))} {v:Value} {c:Hl} (h:OwnR g l v c):Ny v=true:=by obtain ⟨b,es,clock,vl,cr,rfl,_⟩:=h;rfl
theorem OwnR.cl {g:Gh} {l:List (K2×Option (List α))} {v:Value} {c:Hl} (h:OwnR g l v c):v.cells.toList=[v]:=by obtain ⟨b,es,clock,vl,cr,rfl,_⟩:=h;rfl
theorem OwnR.csz {g:Gh} {l:List (K2×Option (List α))} {v:Value} {c:Hl} (h:OwnR g l v c):v.cells.size=1:=by obtain ⟨b,es,clock,vl,cr,rfl,_⟩:=h;rfl
def LkR (v:Value) (k:K2) (u:Value) (c:Hl):Prop:=∃ b es clock vl cr,v=.map (some b)∧c=mb b es clock++cr∧EntR es.toList vl∧(mget vl k).getD (.slice Option.none 0 0)=u
theorem OwnR.look {g:Gh} {l:List (K2×Option (List α))} {v:Value} {c:Hl} (h:OwnR g l v c) {k:K2} {x:List α} (hx:lookM l k=some x) :
    ∃ u c1 c2,OwnS g x u c1∧OwnR g (deadM l k) v c2∧LkR v k u c2∧c.Perm (c1++c2):=by
  obtain ⟨b,es,clock,vl,cr,rfl,rfl,h3,h4⟩:=h;obtain ⟨u,c1,c2,e1,e2,e3,e4⟩:=h4.out k x hx;refine ⟨u,c1,mb b es clock++c2,e2,⟨b,es,clock,vl,c2,rfl,rfl,h3,e3⟩,⟨b,es,clock,vl,c2,rfl,rfl,h3,e1⟩,?_⟩;refine (List.Perm.append_left _ e4).trans ?_;rw [← List.append_assoc,← List.append_assoc];exact List.Perm.append_right _ List.perm_append_comm
theorem St0.get {g:Gh} {o:Hl} {w:World} (S:St0 g o w) {b:Nat} {x:Obj} (h:(b,x)∈o):w.heap[b]? = some x:=(S.own (b,x) h).1
end
end Go.Dc
