import Derived.Test.YtmmegcjbdkaffaaGreatDoorDcE
namespace Go.Dc
open Go
variable {P : Program} {ρ : Option Nat} {n : Fw} {e : List (Nat × Value)} {C : World → Prop}
def LeafEq (P:Program) (t:TypeId) (x y:Value) (b:Bool):Prop:=(∃ d,P.underlying t=some d∧aggD d=false)∧∀ (d:Nat) (w:World),(Op.equalIn (d+1) t x y).run P w=.ok b w
theorem Ha {t:TypeId} {k:IntKind} {a b:Int} (h:P.underlying t=some (.int k)):LeafEq P t (.int k a) (.int k b) (decide (a=b)) :=
  ⟨⟨_,h,rfl⟩,fun d w=>by rw [run_equalIn_int w d t k k a b h];rfl⟩
theorem leaf_bool {t:TypeId} {a b:Bool} (h:P.underlying t=some .bool):LeafEq P t (.bool a) (.bool b) (decide (a=b)) :=
  ⟨⟨_,h,rfl⟩,fun d w=>by rw [run_equalIn_bool' w d t a b h];cases a <;> cases b <;> rfl⟩
def Ue (P:Program) (xs ys:List Value):List (String×TypeId×Nat)→List Bool→Prop
  | [],bs=>bs=[]
  | f :: fs, bs => ∃ b bs', bs = b :: bs' ∧ f.1 ≠ "_" ∧ (∃ x y, xs[f.2.2]? = some x ∧ ys[f.2.2]? = some y ∧ LeafEq P f.2.1 x y b) ∧ Ue P xs ys fs bs'
def allB:List Bool→Bool
  | []=>true
  | [b]=>b
  | b::bs=>b && allB bs
theorem allB_cons (b:Bool) (bs:List Bool):allB (b::bs)=(b && allB bs):=by cases bs <;> simp [allB]
theorem Uh {xs ys:List Value} (d:Nat) (w:World):∀ (fs:List Field) {ds:List (String×TypeId×Nat)} {bs:List Bool},fs.map (fun f=>(f.name,f.type,f.offset))=ds→Ue P xs ys ds bs →
    (Op.eqFields (d+1) xs.toArray ys.toArray fs).run P w=.ok (allB bs) w
  | [],ds,bs,h,hl=>by
    subst h;simp only [List.map_nil,Ue] at hl;subst hl;simp [Op.eqFields,allB]
  | f::fs,ds,bs,h,hl=>by
    subst h;simp only [List.map_cons,Ue] at hl;obtain ⟨b,bs',rfl,hn,⟨x,y,hx,hy,⟨dd,hu,hag⟩,he⟩,hr⟩:=hl;have ih:=Uh d w fs rfl hr;have px:(part f.type xs.toArray f.offset).run P w=.ok x w:=by simp [part,Mc hu,hag,hx]
    have py:(part f.type ys.toArray f.offset).run P w=.ok y w:=by simp [part,Mc hu,hag,hy]
    simp only [Op.eqFields,if_pos hn,Sem.run_bind,px,py,Result.andThen_ok,he d w,allB_cons];cases b
    · simp
    · simp [ih]
theorem run_eqS {T:TypeId} {xs ys:List Value} {ds:List (String×TypeId×Nat)} {bs:List Bool} (hT:P.underlying T=some (.struct (P.fieldsOf T))) (hp:P.stoodInHeld T=false)
    (hf:(P.fieldsOf T).toList.map (fun f=>(f.name,f.type,f.offset))=ds) (h:Ue P xs ys ds bs) (w:World):(Op.equal T (.agg xs.toArray) (.agg ys.toArray)).run P w=.ok (allB bs) w:=by
  simp only [Op.equal,Op.maxDepth];rw [run_equalIn_struct w 9999 T _ _ hT hp];exact Uh 9998 w _ hf h
theorem ev_eqS {T U:TypeId} {x y:Operand} {xs ys:List Value} {ds:List (String×TypeId×Nat)} {bs:List Bool} (hT:P.underlying T=some (.struct (P.fieldsOf T))) (hp:P.stoodInHeld T=false) (hgd:P.eqGuardType P.depth T=false)
    (hf:(P.fieldsOf T).toList.map (fun f=>(f.name,f.type,f.offset))=ds) (hx:Bt e x=some (.agg xs.toArray)) (hy:Bt e y=some (.agg ys.toArray)) (h:Ue P xs ys ds bs):Ev P n e C (.binOp .eql T x y U) (.bool (allB bs)):=by
  intro o a w ho F _;simp [execOp,ho,F.eval hx,F.eval hy,eqGuard,hgd,binOp,run_eqS hT hp hf h]
theorem ev_neS {T U:TypeId} {x y:Operand} {xs ys:List Value} {ds:List (String×TypeId×Nat)} {bs:List Bool} (hT:P.underlying T=some (.struct (P.fieldsOf T))) (hp:P.stoodInHeld T=false) (hgd:P.eqGuardType P.depth T=false)
    (hf:(P.fieldsOf T).toList.map (fun f=>(f.name,f.type,f.offset))=ds) (hx:Bt e x=some (.agg xs.toArray)) (hy:Bt e y=some (.agg ys.toArray)) (h:Ue P xs ys ds bs):Ev P n e C (.binOp .neq T x y U) (.bool (!allB bs)):=by
  intro o a w ho F _;simp [execOp,ho,F.eval hx,F.eval hy,eqGuard,hgd,binOp,run_eqS hT hp hf h]
theorem ev_eqB {T U:TypeId} {x y:Operand} {p q:Bool} (hT:P.underlying T=some .bool) (hx:Bt e x=some (.bool p)) (hy:Bt e y=some (.bool q)):Ev P n e C (.binOp .eql T x y U) (.bool (decide (p=q))):=by
  intro o a w ho F _;have:=(leaf_bool (P:=P) (t:=T) (a:=p) (b:=q) hT).2 9999 w;simp [execOp,ho,F.eval hx,F.eval hy,eqGuard,binOp,Op.equal,Op.maxDepth,this]
theorem ev_neB {T U:TypeId} {x y:Operand} {p q:Bool} (hT:P.underlying T=some .bool) (hx:Bt e x=some (.bool p)) (hy:Bt e y=some (.bool q)):Ev P n e C (.binOp .neq T x y U) (.bool (!decide (p=q))):=by
  intro o a w ho F _;have:=(leaf_bool (P:=P) (t:=T) (a:=p) (b:=q) hT).2 9999 w;simp [execOp,ho,F.eval hx,F.eval hy,eqGuard,binOp,Op.equal,Op.maxDepth,this]
theorem A6 {α:Type} [Rep α] {g:Gh} {l:List α} {v:Value} {T E:TypeId} {x:Operand} (h:RepSl g l v) (hx:Bt e x=some v) (hT:P.underlying T=some (.slice E)) :
    Ev P n e C (.call { callee:=.builtin .len,args:=#[x],argTypes:=#[T] }) (.int .i64 l.length):=by
  obtain ⟨a,cap,rfl,_⟩:=h.len;exact T5 hx hT
theorem Ef {α:Type} [Rep α] {g:Gh} {l:List α} {v:Value} {c:Hl} {T E:TypeId} {x:Operand} (h:OwnS g l v c) (hx:Bt e x=some v) (hT:P.underlying T=some (.slice E)) :
    Ev P n e C (.call { callee:=.builtin .len,args:=#[x],argTypes:=#[T] }) (.int .i64 l.length):=by
  obtain ⟨a,cap,rfl,_⟩:=h.len;exact T5 hx hT
theorem Bm {g g':Gh} {p:Value} {cs:List Value} {cks:List Hl} {fr:Hl} (h:PtrC g p cs) (l:Le g g'):∀ w,St g' cks fr w→PtrW w p cs:=fun _ s=>(h.mono l).at s
theorem Dk {g:Gh} {cs:List Hl} {fr:Hl} {b:Nat} {l cells:List Value} {t:TypeId} {fz:Nat×Nat} (k:Nat) (hk:cs[k]? = some [(b,.cells l.toArray t fz)]) (off:Nat) (hc:(l.drop off).take cells.length=cells) (hm:off+cells.length≤l.length) :
    ∀ w,St g cs fr w→PtrW w (.pointer (some ⟨b,off,Option.none⟩)) cells:=by
  intro w h;have:=St.box k hk off cells.length hm w h
  rwa [hc] at this
theorem Aq {T:TypeId} {fs:Array Field} {x:Operand} {p q:Value} {i k z:Nat} {ft:TypeId} (hT:P.underlying T=some (.struct fs)) (hf:(fs[i]?).map (fun f=>(f.offset,f.type))=some (k,ft))
    (hz:(P.info? ft).map (·.size)=some (z+1)) (hx:Bt e x=some p) (hp:∃ a,p=.pointer (some a)) (hq:Ld p k=q):Ev P n e C (.fieldAddr T x i) q:=by
  subst hq;exact ev_fieldAddr hT hf hz hx hp
end Go.Dc
