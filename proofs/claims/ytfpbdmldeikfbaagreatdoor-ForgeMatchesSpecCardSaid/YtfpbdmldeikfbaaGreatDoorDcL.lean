import Derived.Test.YtfpbdmldeikfbaaGreatDoorDcK
set_option linter.unusedSimpArgs false
set_option linter.unusedVariables false
namespace Go.Dc
open Go
variable {P : Program} {ρ : Option Nat} {n : Fw} {e : List (Nat × Value)}
variable {α : Type} [Rep α] [ORep α]
end Go.Dc
namespace Go.Dc
open Go
variable {P : Program} {ρ : Option Nat} {n : Fw} {e : List (Nat × Value)} {C : World → Prop}
noncomputable def nilIf {α β:Type} (l:List α) (m1 m2:Option β):Option β:=open Classical in if l=[] then (if m1=m2 then m1 else Option.none) else m2
theorem nilIf_same {α β:Type} {l:List α} {m1 m2:Option β} (h:l=[]→m1=m2):nilIf l m1 m2=m2:=by
 unfold nilIf;by_cases hl:l=[]
 ·rw [Ad hl,Ad (h hl),h hl]
 ·rw [Ac hl]
theorem nilIf_some {α β:Type} {l:List α} {m1 m2:Option β} {r:β} (h:nilIf l m1 m2=some r):m2=some r∧(l=[]→m1=some r):=by
 unfold nilIf at h;by_cases hl:l=[]
 ·rw [Ad hl] at h;split at h
  ·rename_i he;exact ⟨he ▸ h,fun _=>h⟩
  ·cases h
 ·rw [Ac hl] at h;exact ⟨h,fun e=>absurd e hl⟩
theorem nil_or {α β:Type} {l:List α} {m1 m2:Option β} {r:β} {b:Bool} (hb:b=true→l=[]) (h:nilIf l m1 m2=some r):(b=true∧m1=some r)∨(b=false∧m2=some r):=by
 obtain ⟨h1,h2⟩:=nilIf_some h;cases b with
 | true=>exact .inl ⟨rfl,h2 (hb rfl)⟩
 | false=>exact .inr ⟨rfl,h1⟩
theorem run_eqNil {T E:TypeId} {a:Option Addr} {m k:Nat} (hT:P.underlying T=some (.slice E)) (w:World):(Op.equal T (.slice a m k) (.slice Option.none 0 0)).run P w=.ok a.isNone w:=by
 have:∀ d,(Op.equalIn (d+1) T (.slice a m k) (.slice Option.none 0 0)).run P w=.ok a.isNone w:=by
  intro d;cases a <;> simp [Op.equalIn,run_underlying hT]
 exact this 9999
theorem ev_nilV {T E U:TypeId} {x y:Operand} {a:Option Addr} {m k:Nat} (hT:P.underlying T=some (.slice E)) (hx:Bn e x=some (.slice a m k)) (hy:Bn e y=some (.slice Option.none 0 0)):Ev P n e C (.binOp .eql T x y U) (.bool a.isNone):=by
 intro o ac w ho F _;simp [execOp,ho,F.eval hx,F.eval hy,eqGuard,binOp,run_eqNil hT]
theorem RepSl.isnil {α:Type} [Rep α] {g:Gh} {l:List α} {v:Value} (h:RepSl g l v):∃ a m k,v=.slice a m k∧(a.isNone=true→l=[]):=by
 rcases h with ⟨rfl,a,cap,rfl⟩ | ⟨b,off,cap,c,t,fz,rfl,_⟩
 ·exact ⟨a,_,_,rfl,fun _=>rfl⟩
 ·exact ⟨_,_,_,rfl,fun h=>by cases h⟩
theorem OwnS.isnil {α:Type} [Rep α] {g:Gh} {l:List α} {v:Value} {c:Hl} (h:OwnS g l v c):∃ a m k,v=.slice a m k∧(a.isNone=true→l=[]):=by
 rcases h with ⟨rfl,rfl,_⟩ | ⟨b,cap,arr,t,rfl,_⟩
 ·exact ⟨_,_,_,rfl,fun _=>rfl⟩
 ·exact ⟨_,_,_,rfl,fun h=>by cases h⟩
theorem ev_nileqlS {α:Type} [Rep α] {g:Gh} {l:List α} {v:Value} {T E U:TypeId} {x y:Operand} (h:RepSl g l v) (hT:P.underlying T=some (.slice E)) (hx:Bn e x=some v) (hy:Bn e y=some (.slice Option.none 0 0)) :
  ∃ b:Bool,(b=true→l=[])∧Ev P n e C (.binOp .eql T x y U) (.bool b):=by
 obtain ⟨a,m,k,rfl,hn⟩:=h.isnil;exact ⟨_,hn,ev_nilV hT hx hy⟩
theorem Cat.cut {α:Type} [Rep α] {g:Gh} {l:List α} {cs:List Value} {p q:Nat} (h:Cat g l cs) (hpq:p≤q) (hq:q≤l.length):Cat g ((l.take q).drop p) ((cs.drop (p * Rep.n α)).take ((q - p) * Rep.n α)):=by
 obtain ⟨h1,h2⟩:=h;have e0:q * Rep.n α≤cs.length:=by rw [h1];exact Aq _ hq
 have e1:(q - p) * Rep.n α+p * Rep.n α=q * Rep.n α:=by rw [← B8];congr 1;omega
 refine ⟨?_,fun i hi=>?_⟩
 ·simp only [Bl,Cd];rw [Nat.min_eq_left (by omega),Nat.min_eq_left (by omega)]
 ·have hi':p+i < l.length:=by simp at hi;omega
  have hiq:i < q - p:=by simp at hi;omega
  have hle:i * Rep.n α+Rep.n α≤(q - p) * Rep.n α:=by
   have:(i+1) * Rep.n α≤(q - p) * Rep.n α:=Aq _ hiq
   rwa [B8,Nat.one_mul] at this
  have:=h2 (p+i) hi';simp only [D3,Ew];rw [List.drop_take,List.take_take,Gu,Nat.min_eq_left (by omega),show p * Rep.n α+i * Rep.n α=(p+i) * Rep.n α from by rw [B8]]
  exact this
def ViewS {α:Type} [Rep α] (g:Gh) (l:List α) (v:Value) (c:Hl):Prop :=
 (∃ a cap,v=.slice a l.length cap)∧∃ cs,Cat g l cs∧∀ (w:World) (cks:List Hl) (fr:Hl) (k:Nat),cks[k]? = some c→St g cks fr w→Reads w (Rep.n α) v l.length cs
theorem ViewS.mono {α:Type} [Rep α] {g g':Gh} {l:List α} {v:Value} {c:Hl} (hl:Le g g') (h:ViewS g l v c):ViewS g' l v c:=by
 obtain ⟨h1,cs,h2,h3⟩:=h;exact ⟨h1,cs,⟨h2.1,fun i hi=>Rep.mono hl (h2.2 i hi)⟩,fun w cks fr k hk s=>h3 w cks fr k hk (St0.weak hl s)⟩
theorem ev_cutV {α:Type} [Rep α] {g:Gh} {l:List α} {v:Value} {c:Hl} {T E:TypeId} {x:Operand} {lo hi:Option Operand} {p q:Int} {l':List α} (hr:OwnS g l v c) (hc:cut? l p q=some l') (hT:P.underlying T=some (.slice E)) (hz:(P.info? E).map (·.size)=some (Rep.n α))
  (hx:Bn e x=some v) (hlo:bnd e lo 0 p) (hhi:bnd e hi l.length q):∃ v',ViewS g l' v' c∧Ev P n e C (.slice T x lo hi Option.none) v':=by
 have hr0:=hr;unfold cut? at hc;split at hc
 case isFalse=>cases hc
 rename_i hb
 cases hc;obtain ⟨h0,h1,h2⟩:=hb;obtain ⟨p,rfl⟩:=Int.eq_ofNat_of_zero_le h0;obtain ⟨q,rfl⟩:=Int.eq_ofNat_of_zero_le (show 0≤q from by omega)
 have hpq:p≤q:=by omega
 have hql:q≤l.length:=by omega
 obtain ⟨cs,hcat,hown⟩:=hr.cat;have hcut:=hcat.cut hpq hql;have hlen:((l.take q).drop p).length=q - p:=by simp;omega
 rcases hr with ⟨rfl,rfl,rfl⟩ | ⟨b,cap,arr,t,rfl,rfl,h3,h4,h5⟩
 ·have hq0:q=0:=by simp at hql;omega
  have hp0:p=0:=by omega
  subst hq0;subst hp0;refine ⟨.slice Option.none 0 0,⟨⟨_,_,rfl⟩,[],⟨by simp,fun i hi=>by simp at hi⟩,fun w cks fr k hk s=>⟨by simp,E0,.inl ⟨rfl,_,_,rfl⟩⟩⟩,?_⟩
  intro o a w ho F _;have hb:=Mt (P:=P) (isS:=true) (len:=0) (cap:=0) F hlo (by simpa using hhi) (Int.le_refl 0) (Int.le_refl 0) (by omega) w
  simp [execOp,ho,F.eval hx,Instr.sliceAt,Instr.slice,run_underlying hT,hb,E8 hz]
 ·refine ⟨.slice (some (if cap=p then ⟨b,0,Option.none⟩ else ⟨b,p * Rep.n α,Option.none⟩)) (q - p) (cap - p),⟨⟨_,_,by rw [Ay,Ay,hlen]⟩,_,by rw [Ay,Ay];exact hcut,?_⟩,?_⟩
  ·intro w cks fr k hk s;rw [Ay,Ay,hlen];refine ⟨by rw [hcut.1,hlen],hcut.one,?_⟩
   rcases Nat.eq_zero_or_pos (q - p) with hz0 | hz0
   ·exact .inl ⟨hz0,_,_,by rw [hz0]⟩
   ·have hcp:¬ cap=p:=by omega
    rw [Ac hcp];refine .inr ⟨_,_,rfl,b,p * Rep.n α,arr,t,(0,0),rfl,s.heap k hk,?_,?_⟩
    ·rw [hcut.1,hlen,h4,← B8];exact Aq _ (by omega)
    ·rw [hcut.1,hlen];rcases hown with ⟨h6,_⟩ | ⟨b',cap',arr',t',h6,h7,_,_,h8⟩
     ·cases h6
     ·cases h6;cases h7;rw [← h8];have e1:(q - p) * Rep.n α+p * Rep.n α=q * Rep.n α:=by rw [← B8];congr 1;omega
      have e2:q * Rep.n α≤l.length * Rep.n α:=Aq _ hql;rw [List.drop_take,List.take_take,Nat.min_eq_left (by omega)]
  ·intro o a w ho F _;have hb:=Mt (P:=P) (isS:=true) (len:=l.length) (cap:=cap) F hlo hhi (by omega) (by omega) (by omega) w
   by_cases hcp:cap=p
   ·subst hcp;have hq2:q=cap:=by omega
    subst hq2;simp [execOp,ho,F.eval hx,Instr.sliceAt,Instr.slice,run_underlying hT,hb,E8 hz,Qd]
   ·simp [execOp,ho,F.eval hx,Instr.sliceAt,Instr.slice,run_underlying hT,hb,E8 hz,Qd,hcp]
abbrev bp (b o:Nat):Value:=.pointer (some ⟨b,o,Option.none⟩)
abbrev Ds:Value:=.slice Option.none 0 0
theorem lb {m n:Nat} (h:Nat.ble m n=true):m≤n:=M9 h
theorem D7 {α:Type} {x y:α} (h:some x=some y):x=y:=Gg h
abbrev _root_.Go.Value.i6 (x:Int):Value:=.int .i64 x
abbrev bx (b:Nat) (v:Array Value) (t:TypeId):Nat×Obj:=(b,.cells v t (0,0))
theorem wE {P:Program} {ρ:Option Nat} {n:Fw} {e:List (Nat×Value)} {C:World→Prop} {ops:Array Oper} {rest:List Oper} {o:Oper} {Q:Exit→Act→World→Prop} {a:Act} {w:World} {v:Value} {d:Nat}
  (hev:Ev P n e C o.op v) (F:Fr n a e) (hC:C w) (hd:o.dst=some d)
  (k:∀ a',Fr n a' ((d,v)::e)→wpListIn (RW ρ) 0 P ops Q rest a' w) (hg:o.guard=Option.none:=by rfl) (hn:Nat.blt d n.sz=true:=by rfl):wpListIn (RW ρ) 0 P ops Q (o::rest) a w:=wl_ev (wn hg) hev F hC hd hn k
theorem Ug {P:Program} {ρ:Option Nat} {n:Fw} {e:List (Nat×Value)} {ops:Array Oper} {rest:List Oper} {o:Oper} {Q:Exit→Act→World→Prop} {a:Act} {w:World} {f:Operand} {fn:FuncId} {xs:List Operand} {vs:List Value} {A:Array TypeId} {d:Nat} {R:Value→World→Prop}
  (hg:Region.wanted o (yielded ops a.tmps)=true) (ho:o.op=.call { callee:=.value f,args:=xs.toArray,argTypes:=A }) (F:Fr n a e) (hf:Bn e f=some (.func (.func fn) #[] #[])) (hc:Calls P fn vs.toArray w (fun en w'=>∃ v,en=.returned v∧R v w')) (hxs:xs.map (Bn e)=vs.map some)
  (hent:∀ args w,(callFunc fn args).run P w=.ok (.enter fn args) w) (hd:o.dst=some d) (hn:Nat.blt d n.sz=true)
  (K:∀ v a' w',R v w'→Fr n a' ((d,v)::e)→wpListIn (RW ρ) 0 P ops Q rest a' w'):wpListIn (RW ρ) 0 P ops Q (o::rest) a w :=
 wl_call (cap:=[]) hg ho F hf hxs hent (by simpa using hc) hd hn K
end Go.Dc
