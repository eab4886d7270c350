import Derived.Test.YtmmegcjbdkaffaaGreatDoorDcK
namespace Go.Dc
open Go
variable {P : Program} {ρ : Option Nat} {n : Fw} {e : List (Nat × Value)}
variable {α : Type} [Rep α] [ORep α]
end Go.Dc
namespace Go.Dc
open Go
variable {P : Program} {ρ : Option Nat} {n : Fw} {e : List (Nat × Value)} {C : World → Prop}
noncomputable def nilIf {α β:Type} (l:List α) (m1 m2:Option β):Option β:=open Classical in if l=[] then (if m1=m2 then m1 else Option.none) else m2
theorem nilIf_same {α β:Type} {l:List α} {m1 m2:Option β} (h:l=[]→m1=m2):nilIf l m1 m2=m2:=by
  unfold nilIf;by_cases hl:l=[]
  · rw [if_pos hl,if_pos (h hl),h hl]
  · rw [if_neg hl]
theorem nilIf_some {α β:Type} {l:List α} {m1 m2:Option β} {r:β} (h:nilIf l m1 m2=some r):m2=some r∧(l=[]→m1=some r):=by
  unfold nilIf at h;by_cases hl:l=[]
  · rw [if_pos hl] at h;split at h
    · rename_i he;exact ⟨he ▸ h,fun _=>h⟩
    · cases h
  · rw [if_neg hl] at h;exact ⟨h,fun e=>absurd e hl⟩
theorem nil_or {α β:Type} {l:List α} {m1 m2:Option β} {r:β} {b:Bool} (hb:b=true→l=[]) (h:nilIf l m1 m2=some r):(b=true∧m1=some r)∨(b=false∧m2=some r):=by
  obtain ⟨h1,h2⟩:=nilIf_some h;cases b with
  | true=>exact .inl ⟨rfl,h2 (hb rfl)⟩
  | false=>exact .inr ⟨rfl,h1⟩
theorem run_eqNil {T E:TypeId} {a:Option Addr} {m k:Nat} (hT:P.underlying T=some (.slice E)) (w:World):(Op.equal T (.slice a m k) (.slice Option.none 0 0)).run P w=.ok a.isNone w:=by
  have:∀ d,(Op.equalIn (d+1) T (.slice a m k) (.slice Option.none 0 0)).run P w=.ok a.isNone w:=by
    intro d;cases a <;> simp [Op.equalIn,run_underlying hT]
  exact this 9999
theorem ev_nilV {T E U:TypeId} {x y:Operand} {a:Option Addr} {m k:Nat} (hT:P.underlying T=some (.slice E)) (hx:Bt e x=some (.slice a m k)) (hy:Bt e y=some (.slice Option.none 0 0)):Ev P n e C (.binOp .eql T x y U) (.bool a.isNone):=by
  intro o ac w ho F _;simp [execOp,ho,F.eval hx,F.eval hy,eqGuard,binOp,run_eqNil hT]
theorem RepSl.isnil {α:Type} [Rep α] {g:Gh} {l:List α} {v:Value} (h:RepSl g l v):∃ a m k,v=.slice a m k∧(a.isNone=true→l=[]):=by
  rcases h with ⟨rfl,a,cap,rfl⟩ | ⟨b,off,cap,c,t,fz,rfl,_⟩
  · exact ⟨a,_,_,rfl,fun _=>rfl⟩
  · exact ⟨_,_,_,rfl,fun h=>by cases h⟩
theorem OwnS.isnil {α:Type} [Rep α] {g:Gh} {l:List α} {v:Value} {c:Hl} (h:OwnS g l v c):∃ a m k,v=.slice a m k∧(a.isNone=true→l=[]):=by
  rcases h with ⟨rfl,rfl,_⟩ | ⟨b,cap,arr,t,rfl,_⟩
  · exact ⟨_,_,_,rfl,fun _=>rfl⟩
  · exact ⟨_,_,_,rfl,fun h=>by cases h⟩
theorem ev_nileqlS {α:Type} [Rep α] {g:Gh} {l:List α} {v:Value} {T E U:TypeId} {x y:Operand} (h:RepSl g l v) (hT:P.underlying T=some (.slice E)) (hx:Bt e x=some v) (hy:Bt e y=some (.slice Option.none 0 0)) :
    ∃ b:Bool,(b=true→l=[])∧Ev P n e C (.binOp .eql T x y U) (.bool b):=by
  obtain ⟨a,m,k,rfl,hn⟩:=h.isnil;exact ⟨_,hn,ev_nilV hT hx hy⟩
theorem Cat.cut {α:Type} [Rep α] {g:Gh} {l:List α} {cs:List Value} {p q:Nat} (h:Cat g l cs) (hpq:p≤q) (hq:q≤l.length):Cat g ((l.take q).drop p) ((cs.drop (p * Rep.n α)).take ((q - p) * Rep.n α)):=by
  obtain ⟨h1,h2⟩:=h;have e0:q * Rep.n α≤cs.length:=by rw [h1];exact Nat.mul_le_mul_right _ hq
  have e1:(q - p) * Rep.n α+p * Rep.n α=q * Rep.n α:=by rw [← Nat.add_mul];congr 1;omega
  refine ⟨?_,fun i hi=>?_⟩
  · simp only [List.length_take,List.length_drop];rw [Nat.min_eq_left (by omega),Nat.min_eq_left (by omega)]
  · have hi':p+i < l.length:=by simp at hi;omega
    have hiq:i < q - p:=by simp at hi;omega
    have hle:i * Rep.n α+Rep.n α≤(q - p) * Rep.n α:=by
      have:(i+1) * Rep.n α≤(q - p) * Rep.n α:=Nat.mul_le_mul_right _ hiq
      rwa [Nat.add_mul,Nat.one_mul] at this
    have:=h2 (p+i) hi';simp only [List.getElem_drop,List.getElem_take];rw [List.drop_take,List.take_take,List.drop_drop,Nat.min_eq_left (by omega),show p * Rep.n α+i * Rep.n α=(p+i) * Rep.n α from by rw [Nat.add_mul]]
    exact this
def ViewS {α:Type} [Rep α] (g:Gh) (l:List α) (v:Value) (c:Hl):Prop :=
  (∃ a cap,v=.slice a l.length cap)∧∃ cs,Cat g l cs∧∀ (w:World) (cks:List Hl) (fr:Hl) (k:Nat),cks[k]? = some c→St g cks fr w→Reads w (Rep.n α) v l.length cs
theorem ViewS.mono {α:Type} [Rep α] {g g':Gh} {l:List α} {v:Value} {c:Hl} (hl:Le g g') (h:ViewS g l v c):ViewS g' l v c:=by
  obtain ⟨h1,cs,h2,h3⟩:=h;exact ⟨h1,cs,⟨h2.1,fun i hi=>Rep.mono hl (h2.2 i hi)⟩,fun w cks fr k hk s=>h3 w cks fr k hk (St0.weak hl s)⟩
abbrev bp (b o:Nat):Value:=.pointer (some ⟨b,o,Option.none⟩)
abbrev A4:Value:=.slice Option.none 0 0
theorem lb {m n:Nat} (h:Nat.ble m n=true):m≤n:=Nat.le_of_ble_eq_true h
theorem Am {α:Type} {x y:α} (h:some x=some y):x=y:=Option.some.inj h
abbrev _root_.Go.Value.i6 (x:Int):Value:=.int .i64 x
abbrev bx (b:Nat) (v:Array Value) (t:TypeId):Nat×Obj:=(b,.cells v t (0,0))
theorem wE {P:Program} {ρ:Option Nat} {n:Fw} {e:List (Nat×Value)} {C:World→Prop} {ops:Array Oper} {rest:List Oper} {o:Oper} {Q:Exit→Act→World→Prop} {a:Act} {w:World} {v:Value} {d:Nat}
    (hev:Ev P n e C o.op v) (F:Fr n a e) (hC:C w) (hd:o.dst=some d)
    (k:∀ a',Fr n a' ((d,v)::e)→wpListIn (RW ρ) 0 P ops Q rest a' w) (hg:o.guard=Option.none:=by rfl) (hn:Nat.blt d n.sz=true:=by rfl):wpListIn (RW ρ) 0 P ops Q (o::rest) a w:=Lu (wn hg) hev F hC hd hn k
theorem Cu {P:Program} {ρ:Option Nat} {n:Fw} {e:List (Nat×Value)} {ops:Array Oper} {rest:List Oper} {o:Oper} {Q:Exit→Act→World→Prop} {a:Act} {w:World} {f:Operand} {fn:FuncId} {xs:List Operand} {vs:List Value} {A:Array TypeId} {d:Nat} {R:Value→World→Prop}
    (hg:Region.wanted o (yielded ops a.tmps)=true) (ho:o.op=.call { callee:=.value f,args:=xs.toArray,argTypes:=A }) (F:Fr n a e) (hf:Bt e f=some (.func (.func fn) #[] #[])) (hc:Calls P fn vs.toArray w (fun en w'=>∃ v,en=.returned v∧R v w')) (hxs:xs.map (Bt e)=vs.map some)
    (hent:∀ args w,(callFunc fn args).run P w=.ok (.enter fn args) w) (hd:o.dst=some d) (hn:Nat.blt d n.sz=true)
    (K:∀ v a' w',R v w'→Fr n a' ((d,v)::e)→wpListIn (RW ρ) 0 P ops Q rest a' w'):wpListIn (RW ρ) 0 P ops Q (o::rest) a w :=
  Th (cap:=[]) hg ho F hf hxs hent (by simpa using hc) hd hn K
end Go.Dc
