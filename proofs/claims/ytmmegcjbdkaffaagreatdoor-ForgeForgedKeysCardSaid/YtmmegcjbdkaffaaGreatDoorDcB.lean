import Derived.Test.YtmmegcjbdkaffaaGreatDoorDcA
namespace Go.Dc
open Go
def Og:Value→Bool
  | .agg _ | .tuple _=>false
  | _=>true
class Rep (α:Type) where
  n:Nat
  rep:Gh→α→List Value→Prop
  len:∀ {g:Gh} {x:α} {cs:List Value},rep g x cs→cs.length=n
  mono:∀ {g g':Gh} {x:α} {cs:List Value},Le g g'→rep g x cs→rep g' x cs
  one:∀ {g:Gh} {x:α} {cs:List Value},rep g x cs→∀ v∈cs,Og v=true
instance:Rep Int where
  one:=fun h v hv=>by rw [h] at hv;simp at hv;rw [hv];rfl
  n:=1
  rep:=fun _ x cs=>cs=[.int .i64 x]
  len:=fun h=>by rw [h];rfl
  mono:=fun _ h=>h
instance:Rep UInt8 where
  one:=fun h v hv=>by rw [h] at hv;simp at hv;rw [hv];rfl
  n:=1
  rep:=fun _ x cs=>cs=[.int .u8 x.toNat]
  len:=fun h=>by rw [h];rfl
  mono:=fun _ h=>h
instance:Rep Bool where
  one:=fun h v hv=>by rw [h] at hv;simp at hv;rw [hv];rfl
  n:=1
  rep:=fun _ x cs=>cs=[.bool x]
  len:=fun h=>by rw [h];rfl
  mono:=fun _ h=>h
instance:Rep ByteArray where
  one:=fun h v hv=>by rw [h] at hv;simp at hv;rw [hv];rfl
  n:=1
  rep:=fun _ x cs=>cs=[.string x]
  len:=fun h=>by rw [h];rfl
  mono:=fun _ h=>h
def RepSl {α:Type} [Rep α] (g:Gh) (l:List α) (v:Value):Prop :=
  (l=[]∧∃ a cap,v=.slice a 0 cap) ∨
  ∃ b off cap c t fz,v=.slice (some ⟨b,off,Option.none⟩) l.length cap∧l.length≤cap∧g.snap b=some (.cells c t fz)∧off+l.length * Rep.n α≤c.size ∧
    ∀ i (h:i < l.length),Rep.rep g l[i] ((c.toList.drop (off+i * Rep.n α)).take (Rep.n α))
theorem RepSl.mono {α:Type} [Rep α] {g g':Gh} {l:List α} {v:Value} (hl:Le g g') (h:RepSl g l v):RepSl g' l v:=by
  rcases h with h | ⟨b,off,cap,c,t,fz,h1,h2,h3,h4,h5⟩
  · exact .inl h
  · exact .inr ⟨b,off,cap,c,t,fz,h1,h2,hl.snap _ _ h3,h4,fun i hi=>Rep.mono hl (h5 i hi)⟩
theorem RepSl.one {α:Type} [Rep α] {g:Gh} {l:List α} {v:Value} (h:RepSl g l v):Og v=true:=by
  rcases h with ⟨_,_,_,rfl⟩ | ⟨b,off,cap,c,t,fz,rfl,_⟩ <;> rfl
instance {α:Type} [Rep α]:Rep (List α) where
  one:=fun ⟨v,h,h'⟩ u hu=>by rw [h] at hu;simp at hu;rw [hu];exact h'.one
  n:=1
  rep:=fun g l cs=>∃ v,cs=[v]∧RepSl g l v
  len:=fun ⟨v,h,_⟩=>by rw [h];rfl
  mono:=fun hl ⟨v,h,h'⟩=>⟨v,h,h'.mono hl⟩
theorem T3 {α:Type} [Rep α] {g:Gh} {l:List α} {cs:List Value} (h:Rep.rep g l cs):∃ v,cs=[v]∧RepSl g l v:=h
theorem H6 {g:Gh} {x:Int} {cs:List Value} (h:Rep.rep g x cs):cs=[.int .i64 x]:=h
theorem Hu {g:Gh} {x:ByteArray} {cs:List Value} (h:Rep.rep g x cs):cs=[.string x]:=h
theorem rep_u8 {g:Gh} {x:UInt8} {cs:List Value} (h:Rep.rep g x cs):cs=[.int .u8 x.toNat]:=h
theorem RepSl.nil {α:Type} [Rep α] (g:Gh):RepSl g ([]:List α) (.slice Option.none 0 0):=.inl ⟨rfl,_,_,rfl⟩
theorem RepSl.len {α:Type} [Rep α] {g:Gh} {l:List α} {v:Value} (h:RepSl g l v):∃ a cap,v=.slice a l.length cap∧l.length≤cap:=by
  rcases h with ⟨rfl,a,cap,rfl⟩ | ⟨b,off,cap,c,t,fz,h1,h2,_⟩
  · exact ⟨_,_,rfl,Nat.zero_le _⟩
  · exact ⟨_,_,h1,h2⟩
def PtrW (w:World) (p:Value) (cs:List Value):Prop :=
  ∃ b off c t fz,p=.pointer (some ⟨b,off,Option.none⟩)∧w.heap[b]? = some (.cells c t fz)∧off+cs.length≤c.size∧(c.toList.drop off).take cs.length=cs
def PtrC (g:Gh) (p:Value) (cs:List Value):Prop :=
  ∃ b off c t fz,p=.pointer (some ⟨b,off,Option.none⟩)∧g.snap b=some (.cells c t fz)∧off+cs.length≤c.size∧(c.toList.drop off).take cs.length=cs
theorem PtrC.at {g:Gh} {p:Value} {cs:List Value} (h:PtrC g p cs) {o:Hl} {w:World} (s:St0 g o w):PtrW w p cs:=by
  obtain ⟨b,off,c,t,fz,h1,h2,h3,h4⟩:=h;exact ⟨b,off,c,t,fz,h1,s.snap _ _ h2,h3,h4⟩
theorem PtrC.mono {g g':Gh} {p:Value} {cs:List Value} (l:Le g g') (h:PtrC g p cs):PtrC g' p cs:=by
  obtain ⟨b,off,c,t,fz,h1,h2,h3,h4⟩:=h;exact ⟨b,off,c,t,fz,h1,l.snap _ _ h2,h3,h4⟩
def OwnS {α:Type} [Rep α] (g:Gh) (l:List α) (v:Value) (c:Hl):Prop :=
  (v=.slice Option.none 0 0∧l=[]∧c=[]) ∨
  ∃ b cap arr t,v=.slice (some ⟨b,0,Option.none⟩) l.length cap∧c=[(b,.cells arr t (0,0))]∧l.length≤cap∧arr.size=cap * Rep.n α ∧
    ∀ i (h:i < l.length),Rep.rep g l[i] ((arr.toList.drop (i * Rep.n α)).take (Rep.n α))
theorem OwnS.mono {α:Type} [Rep α] {g g':Gh} {l:List α} {v:Value} {c:Hl} (hl:Le g g') (h:OwnS g l v c):OwnS g' l v c:=by
  rcases h with h | ⟨b,cap,arr,t,h1,h2,h3,h4,h5⟩
  · exact .inl h
  · exact .inr ⟨b,cap,arr,t,h1,h2,h3,h4,fun i hi=>Rep.mono hl (h5 i hi)⟩
theorem OwnS.nil {α:Type} [Rep α] (g:Gh):OwnS g ([]:List α) (.slice Option.none 0 0) []:=.inl ⟨rfl,rfl,rfl⟩
theorem OwnS.len {α:Type} [Rep α] {g:Gh} {l:List α} {v:Value} {c:Hl} (h:OwnS g l v c):∃ a cap,v=.slice a l.length cap∧l.length≤cap:=by
  rcases h with ⟨rfl,rfl,_⟩ | ⟨b,cap,arr,t,h1,_,h2,_⟩
  · exact ⟨_,_,rfl,Nat.le_refl _⟩
  · exact ⟨_,_,h1,h2⟩
theorem OwnS.freeze {α:Type} [Rep α] {g:Gh} {l:List α} {v:Value} {c:Hl} {o:Hl} {w:World} (s:St0 g (c++o) w) (h:OwnS g l v c):RepSl (g.add c) l v:=by
  rcases h with ⟨h1,h2,h3⟩ | ⟨b,cap,arr,t,h1,h2,h3,h4,h5⟩
  · exact .inl ⟨h2,_,_,h1⟩
  · subst h2;have hs:=Gh.add_snap (p:=(b,.cells arr t (0,0))) s (by simp)
    exact .inr ⟨b,0,cap,arr,t,(0,0),h1,h3,hs,by rw [h4,Nat.zero_add];exact Nat.mul_le_mul_right _ h3,fun i hi=>by
      rw [Nat.zero_add];exact Rep.mono (Le.add _ _) (h5 i hi)⟩
def Ev (P:Program) (n:Fw) (e:List (Nat×Value)) (C:World→Prop) (op:Op) (v:Value):Prop :=
  ∀ (o:Oper) (a:Act) (w:World),o.op=op→Fr n a e→C w→(execOp a.eval o).run P w=.ok (.value v) w
variable {P : Program} {ρ : Option Nat} {n : Fw} {e : List (Nat × Value)} {C : World → Prop}
theorem semAt_run {f:Operand→Value} {o:Oper} {x:Next} {w w':World} (h:(execOp f o).run P w=.ok x w') (hx:∀ d,x≠.defer d):(o.semAt ρ f).run P w=.ok x w':=by
  cases ρ with
  | none=>exact h
  | some l =>
    rw [Oper.semAt_some]
    · exact h
    · intro c hc;simp only [execOp,hc,Sem.run_bind] at h;cases hr:(resolve f c o.type).run P w with
      | ok d w1 =>
        rw [hr] at h;simp only [Result.andThen_ok,Sem.run_pure,Result.ok.injEq] at h;exact hx _ h.1.symm
      | halt e w1=>rw [hr] at h;simp [Result.andThen] at h
theorem Nd {ops:Array Oper} {rest:List Oper} {o:Oper} {Q:Exit→Act→World→Prop} {a:Act} {w w':World} {x:Next}
    (hg:Region.wanted o (yielded ops a.tmps)=true) (hrun:(execOp a.eval o).run P w=.ok x w') (hx:∀ d,x≠.defer d)
    (h:o.uponIn (RW ρ) 0 P a (wpListIn (RW ρ) 0 P ops Q rest) Q (.ok x w')):wpListIn (RW ρ) 0 P ops Q (o::rest) a w:=by
  unfold wpListIn;rw [if_pos hg];refine ⟨fun _ _=>trivial,?_⟩;rw [show (RW ρ).round=ρ from rfl,semAt_run hrun hx];exact h
theorem Lu {ops:Array Oper} {rest:List Oper} {o:Oper} {Q:Exit→Act→World→Prop} {a:Act} {w:World} {v:Value} {d:Nat}
    (hg:Region.wanted o (yielded ops a.tmps)=true) (hev:Ev P n e C o.op v) (F:Fr n a e) (hC:C w) (hd:o.dst=some d) (hn:Nat.blt d n.sz=true)
    (k:∀ a',Fr n a' ((d,v)::e)→wpListIn (RW ρ) 0 P ops Q rest a' w):wpListIn (RW ρ) 0 P ops Q (o::rest) a w:=by
  refine Nd hg (hev o a w rfl F hC) (by intro d;simp) ?_
  simp only [Oper.uponIn,hd];exact k _ (F.put hn)
theorem Vb {ops:Array Oper} {o:Oper} {a:Act} {j t:Nat} {want b:Bool} (F:Fr n a e) (hg:o.guard=some (j,want)) (hj:(ops[j]?).bind (·.dst)=some t) (ht:Nat.blt t n.sz=true) (hb:Mp e t=some (.bool b)) :
    Region.wanted o (yielded ops a.tmps)=(b == want):=by
  have h1:=F.get t _ hb;have ht':t < a.tmps.size:=by rw [F.sz];simpa using ht
  have h2:a.tmps[t]? = some (.bool b):=by
    rw [Array.getElem?_eq_getElem ht'];simpa [Array.getD,ht'] using h1
  simp only [Region.wanted,hg,yielded,hj,Option.bind_some,h2];cases b <;> cases want <;> rfl
theorem wn {ops:Array Oper} {o:Oper} {a:Act} (hg:o.guard=Option.none):Region.wanted o (yielded ops a.tmps)=true:=by simp [Region.wanted,hg]
theorem wg {ops:Array Oper} {o:Oper} {a:Act} {j t:Nat} {want b:Bool} (F:Fr n a e) (hg:o.guard=some (j,want)) (hj:(ops[j]?).bind (·.dst)=some t) (ht:Nat.blt t n.sz=true) (hb:Mp e t=some (.bool b)) (hbw:b=want) :
    Region.wanted o (yielded ops a.tmps)=true:=by rw [Vb F hg hj ht hb,hbw];simp
theorem Hw {ops:Array Oper} {rest:List Oper} {o:Oper} {Q:Exit→Act→World→Prop} {a:Act} {w:World} {d j t:Nat} {want b:Bool}
    (hg:o.guard=some (j,want)) (hj:(ops[j]?).bind (·.dst)=some t) (ht:Nat.blt t n.sz=true) (hb:Mp e t=some (.bool b)) (hne:(b == want)=false)
    (F:Fr n a e) (hd:o.dst=some d) (hn:Nat.blt d n.sz=true)
    (k:∀ a',Fr n a' ((d,undef)::e)→wpListIn (RW ρ) 0 P ops Q rest a' w):wpListIn (RW ρ) 0 P ops Q (o::rest) a w:=by
  unfold wpListIn;rw [if_neg (by rw [Vb F hg hj ht hb,hne];simp)]
  rw [hd];exact ⟨fun _ _=>trivial,k _ (F.put hn)⟩
theorem wanted_undef {ops:Array Oper} {o:Oper} {a:Act} {j t:Nat} {want:Bool} (F:Fr n a e) (hg:o.guard=some (j,want)) (hj:(ops[j]?).bind (·.dst)=some t) (ht:Nat.blt t n.sz=true) (hb:Mp e t=some undef) :
    Region.wanted o (yielded ops a.tmps)=false:=by
  have h1:=F.get t _ hb;have ht':t < a.tmps.size:=by rw [F.sz];simpa using ht
  have h2:a.tmps[t]? = some undef:=by
    rw [Array.getElem?_eq_getElem ht'];simpa [Array.getD,ht'] using h1
  simp only [Region.wanted,hg,yielded,hj,Option.bind_some,h2];cases want <;> rfl
theorem Dw {ops:Array Oper} {rest:List Oper} {o:Oper} {Q:Exit→Act→World→Prop} {a:Act} {w:World} {d j t:Nat} {want:Bool}
    (hg:o.guard=some (j,want)) (hj:(ops[j]?).bind (·.dst)=some t) (ht:Nat.blt t n.sz=true) (hb:Mp e t=some undef)
    (F:Fr n a e) (hd:o.dst=some d) (hn:Nat.blt d n.sz=true)
    (k:∀ a',Fr n a' ((d,undef)::e)→wpListIn (RW ρ) 0 P ops Q rest a' w):wpListIn (RW ρ) 0 P ops Q (o::rest) a w:=by
  unfold wpListIn;rw [if_neg (by rw [wanted_undef F hg hj ht hb];simp)]
  rw [hd];exact ⟨fun _ _=>trivial,k _ (F.put hn)⟩
theorem Ae {x:Operand} {v:Value} (h:Bt e x=some v):Ev P n e C (.move x) v:=by
  intro o a w ho F _;simp [execOp,ho,F.eval h]
theorem A0 {x:Operand} {v:Value} (h:Bt e x=some v):Ev P n e C (.assign x) v:=by
  intro o a w ho F _;simp [execOp,ho,F.eval h]
theorem ev_pick {c x y:Operand} {b:Bool} {v v':Value} (hc:Bt e c=some (.bool b)) (h:Bt e (bif b then x else y)=some v) (hv:v=v'):Ev P n e C (.pick c x y) v':=by
  intro o a w ho F _;subst hv;cases b
  · simp [execOp,ho,F.eval hc,F.eval (x:=y) h,asBool]
  · simp [execOp,ho,F.eval hc,F.eval (x:=x) h,asBool]
theorem Ah {op:BinOp} {T U:TypeId} {x y:Operand} {k:IntKind} {p q:Int} {v:Value} (hx:Bt e x=some (.int k p)) (hy:Bt e y=some (.int k q))
    (hop:∀ w,(binOp op T (.int k p) (.int k q)).run P w=.ok v w):Ev P n e C (.binOp op T x y U) v:=by
  intro o a w ho F _;simp [execOp,ho,F.eval hx,F.eval hy,eqGuard,hop]
theorem Cs (T:TypeId) (k:IntKind) (p q:Int) (w:World):(binOp .lss T (.int k p) (.int k q)).run P w=.ok (.bool (decide (p < q))) w:=by simp [binOp,Op.intCmp]
theorem Vg (T:TypeId) (k:IntKind) (p q:Int) (w:World):(binOp .leq T (.int k p) (.int k q)).run P w=.ok (.bool (decide (p≤q))) w:=by simp [binOp,Op.intCmp]
theorem Gu (T:TypeId) (k:IntKind) (p q:Int) (w:World):(binOp .gtr T (.int k p) (.int k q)).run P w=.ok (.bool (decide (p > q))) w:=by simp [binOp,Op.intCmp]
theorem Kp (T:TypeId) (k:IntKind) (p q:Int) (w:World):(binOp .geq T (.int k p) (.int k q)).run P w=.ok (.bool (decide (p ≥ q))) w:=by simp [binOp,Op.intCmp]
theorem C3 (T:TypeId) (k:IntKind) (p q:Int) (w:World):(binOp .eql T (.int k p) (.int k q)).run P w=.ok (.bool (decide (p=q))) w:=by
  simp [binOp,Op.intCmp];rfl
theorem Gw (T:TypeId) (k:IntKind) (p q:Int) (w:World):(binOp .neq T (.int k p) (.int k q)).run P w=.ok (.bool (!decide (p=q))) w:=by
  simp [binOp,Op.intCmp];rfl
def inK (k:IntKind) (x:Int):Bool:=decide (k.wrap x=x)
def ckK (k:IntKind) (x:Int):Option Int:=if inK k x then some x else Option.none
theorem ckK_some {k:IntKind} {x y:Int} (h:ckK k x=some y):k.wrap x=x∧y=x:=by
  unfold ckK inK at h;split at h
  · rename_i hh;exact ⟨of_decide_eq_true hh,by cases h;rfl⟩
  · cases h
theorem Bv {T:TypeId} {k:IntKind} {p q r:Int} (h:ckK k (p+q)=some r) (w:World):(binOp .add T (.int k p) (.int k q)).run P w=.ok (.int k r) w:=by
  obtain ⟨h1,rfl⟩:=ckK_some h;simp [binOp,Op.intArith,h1]
theorem Hi {T:TypeId} {k:IntKind} {p q r:Int} (h:ckK k (p - q)=some r) (w:World):(binOp .sub T (.int k p) (.int k q)).run P w=.ok (.int k r) w:=by
  obtain ⟨h1,rfl⟩:=ckK_some h;simp [binOp,Op.intArith,h1]
theorem bo_mul {T:TypeId} {k:IntKind} {p q r:Int} (h:ckK k (p * q)=some r) (w:World):(binOp .mul T (.int k p) (.int k q)).run P w=.ok (.int k r) w:=by
  obtain ⟨h1,rfl⟩:=ckK_some h;simp [binOp,Op.intArith,h1]
def rem? (x y:Int):Option Int:=if y=0 then Option.none else some (x.tmod y)
theorem bo_rem {T:TypeId} {k:IntKind} {p q r:Int} (h:rem? p q=some r) (w:World):(binOp .rem T (.int k p) (.int k q)).run P w=.ok (.int k r) w:=by
  unfold rem? at h;split at h
  · cases h
  · rename_i hq
    cases h;simp [binOp,Op.intDiv,hq]
theorem K1 {op:BinOp} {T U:TypeId} {x y:Operand} {p q:ByteArray} {v:Value} (hx:Bt e x=some (.string p)) (hy:Bt e y=some (.string q))
    (hop:∀ w,(binOp op T (.string p) (.string q)).run P w=.ok v w):Ev P n e C (.binOp op T x y U) v:=by
  intro o a w ho F _
  have:(eqGuard op T x y (.string p) (.string q)).run P w=.ok () w:=by
    cases op <;> simp [eqGuard]
  simp [execOp,ho,F.eval hx,F.eval hy,this,hop]
theorem T6 (a:ByteArray):a.toList=a.data.toList:=ByteArray.toList_eq a
theorem str_ext {a b:ByteArray}:a.toList=b.toList↔a=b:=by
  rw [T6,T6];obtain ⟨⟨x⟩⟩:=a;obtain ⟨⟨y⟩⟩:=b;simp
def sLt (a b:ByteArray):Bool:=Op.bytesLess a.toList b.toList
theorem N8 (T:TypeId) (p q:ByteArray) (w:World):(binOp .eql T (.string p) (.string q)).run P w=.ok (.bool (decide (p=q))) w:=by
  have:(p.toList == q.toList)=decide (p=q):=by rw [Bool.eq_iff_iff];simp [str_ext]
  simp [binOp,Op.stringOp,this]
theorem bs_neq (T:TypeId) (p q:ByteArray) (w:World):(binOp .neq T (.string p) (.string q)).run P w=.ok (.bool (!decide (p=q))) w:=by
  have:(p.toList == q.toList)=decide (p=q):=by rw [Bool.eq_iff_iff];simp [str_ext]
  simp [binOp,Op.stringOp,this]
theorem bs_leq (T:TypeId) (p q:ByteArray) (w:World):(binOp .leq T (.string p) (.string q)).run P w=.ok (.bool (sLt p q || decide (p=q))) w:=by
  have:(p.toList == q.toList)=decide (p=q):=by rw [Bool.eq_iff_iff];simp [str_ext]
  simp [binOp,Op.stringOp,sLt,this]
def cat? (p q:ByteArray):Option ByteArray:=if p.size+q.size≤9223372036854775807 then some (p++q) else Option.none
theorem bs_add {T:TypeId} {p q r:ByteArray} (h:cat? p q=some r) (w:World):(binOp .add T (.string p) (.string q)).run P w=.ok (.string r) w:=by
  unfold cat? at h;split at h
  · rename_i hh
    cases h;have:¬ (((p.size+q.size:Nat):Int) > IntKind.i64.max):=by simp [IntKind.max,IntKind.bits,IntKind.signed];omega
    simp only [binOp,Op.stringOp,if_neg this,Sem.run_pure]
  · cases h
theorem E4 {T:TypeId} {x:Operand} {b:Bool} (hx:Bt e x=some (.bool b)):Ev P n e C (.unOp .not T x) (.bool (!b)):=by
  intro o a w ho F _;simp [execOp,ho,F.eval hx,Op.unary]
theorem T5 {T E:TypeId} {x:Operand} {a:Option Addr} {m c:Nat} (hx:Bt e x=some (.slice a m c)) (hT:P.underlying T=some (.slice E)) :
    Ev P n e C (.call { callee:=.builtin .len,args:=#[x],argTypes:=#[T] }) (.int .i64 m):=by
  intro o ac w ho F _;simp [execOp,ho,F.eval hx,resolve,invoke,builtin,Builtin.len_,run_underlying hT,goInt]
theorem Qj {T:TypeId} {x:Operand} {s:ByteArray} (hx:Bt e x=some (.string s)) (hT:P.underlying T=some .string) :
    Ev P n e C (.call { callee:=.builtin .len,args:=#[x],argTypes:=#[T] }) (.int .i64 s.size):=by
  intro o ac w ho F _;simp [execOp,ho,F.eval hx,resolve,invoke,builtin,Builtin.len_,run_underlying hT,goInt]
theorem ev_max {k:IntKind} {x y:Operand} {A:Array TypeId} {p q:Int} (hx:Bt e x=some (.int k p)) (hy:Bt e y=some (.int k q)) :
    Ev P n e C (.call { callee:=.builtin .max,args:=#[x,y],argTypes:=A }) (.int k (max p q)):=by
  intro o ac w ho F _;have:(if q > p then q else p)=max p q:=by rw [Int.max_def];split <;> split <;> omega
  simp [execOp,ho,F.eval hx,F.eval hy,resolve,invoke,builtin,Builtin.max_,Builtin.max2,this]
theorem Ak {x:Operand} {vs:List Value} {i:Nat} {v:Value} (hx:Bt e x=some (.tuple vs.toArray)) (hi:vs[i]? = some v):Ev P n e C (.extract x i) v:=by
  intro o ac w ho F _;simp [execOp,ho,F.eval hx,Instr.extract,hi]
theorem C7 {x:Operand} {a:Addr} (hx:Bt e x=some (.pointer (some a))):Ev P n e C (.nilCheck x) (.pointer (some a)):=by
  intro o ac w ho F _;simp [execOp,ho,F.eval hx]
theorem Hx {T:TypeId} {parts:List (Nat×Operand)} {vs:List (Nat×Value)} {v:Value} (hp:parts.map (fun p=>(p.1,Bt e p.2))=vs.map (fun p=>(p.1,some p.2)))
    (h:∀ w,(Instr.build T vs.toArray).run P w=.ok v w):Ev P n e C (.build T parts.toArray) v:=by
  intro o a w ho F _
  have hm:parts.map (fun (i,x)=>(i,a.eval x))=vs:=by
    clear h ho
    induction parts generalizing vs with
    | nil=>cases vs with
      | nil=>rfl
      | cons u r=>simp at hp
    | cons p r ih=>cases vs with
      | nil=>simp at hp
      | cons u s =>
        simp only [List.map_cons,List.cons.injEq,Prod.mk.injEq] at hp;simp only [List.map_cons,List.cons.injEq];exact ⟨Prod.ext hp.1.1 (F.eval hp.1.2),ih hp.2⟩
  have h':=h w;simp [execOp,ho,hm,h']
end Go.Dc
