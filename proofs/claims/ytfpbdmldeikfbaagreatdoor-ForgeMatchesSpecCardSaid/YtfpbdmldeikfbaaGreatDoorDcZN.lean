import Derived.Test.YtfpbdmldeikfbaaGreatDoorDcV
import Derived.ChangeKeysEq
import Derived.MapKept
import Derived.WideKeyRuns
set_option linter.unusedSimpArgs false
set_option linter.unusedVariables false
namespace Go.Dc
open Go
variable {P : Program} {ρ : Option Nat} {n : Fw} {e : List (Nat × Value)} {C : World → Prop}
def Als (v:Value) (k m:Int) (nn:Nat) (v2:Value):Prop :=
 ∃ (a a':Option Addr) (len cap cap' kn mn:Nat),v=.slice a len cap∧k=kn∧m=mn∧kn+mn=len∧v2=.slice a' mn cap'∧(0 < mn→∃ b,a=some ⟨b,0,Option.none⟩∧a'=some ⟨b,kn * nn,Option.none⟩)
def als? {α:Type} (l:List α) (k:Int):Option Int:=if 0≤k∧k≤l.length then some ((l.length:Int) - k) else Option.none
def atA? {α:Type} (l:List α) (k m i:Int):Option α:=if 0≤k∧0≤i∧i < m then at? l (k+i) else Option.none
theorem atA?_at {α:Type} {l:List α} {k m i:Int} {z:α} (h:atA? l k m i=some z):at? l (k+i)=some z:=by
 unfold atA? at h;split at h
 ·exact h
 ·cases h
theorem atA?_lt {α:Type} {l:List α} {k m i:Int} {z:α} (h:atA? l k m i=some z):0≤k∧0≤i∧i < m:=by
 unfold atA? at h;split at h
 ·assumption
 ·cases h
theorem addr_add2 (b off p q:Nat):((⟨b,off,Option.none⟩:Addr).add p).add q=(⟨b,off,Option.none⟩:Addr).add (p+q):=by
 unfold Addr.add;by_cases hp:p=0
 ·simp [hp]
 ·by_cases hq:q=0
  ·simp [hp,hq]
  ·simp [hp,hq,Nat.add_assoc]
section
variable {α : Type} [Rep α]
theorem ev_lenAl {k m:Int} {nn:Nat} {v v2:Value} {T E:TypeId} {x:Operand} (hA:Als v k m nn v2) (hx:Bn e x=some v2) (hT:P.underlying T=some (.slice E)):Ev P n e C (.call { callee:=.builtin .len,args:=#[x],argTypes:=#[T] }) (.int .i64 m):=by
 obtain ⟨_,_,_,_,_,kn,mn,_,_,rfl,_,rfl,_⟩:=hA;exact Zj hx hT
theorem ev_cutA {g:Gh} {l:List α} {v:Value} {c:Hl} {T E:TypeId} {x:Operand} {lo:Option Operand} {k m:Int} (hr:OwnS g l v c) (hc:als? l k=some m) (hT:P.underlying T=some (.slice E)) (hz:(P.info? E).map (·.size)=some (Rep.n α))
  (hx:Bn e x=some v) (hlo:bnd e lo 0 k):∃ v',Als v k m (Rep.n α) v'∧Ev P n e C (.slice T x lo Option.none Option.none) v':=by
 unfold als? at hc;split at hc
 case isFalse=>cases hc
 rename_i hb
 cases hc;obtain ⟨h0,h1⟩:=hb;obtain ⟨p,rfl⟩:=Int.eq_ofNat_of_zero_le h0;have hpl:p≤l.length:=by omega
 rcases hr with ⟨rfl,rfl,rfl⟩ | ⟨b,cap,arr,t,rfl,rfl,h3,h4,h5⟩
 ·have hp0:p=0:=by simp at hpl;omega
  subst hp0;refine ⟨.slice Option.none 0 0,⟨Option.none,Option.none,0,0,0,0,0,rfl,rfl,rfl,rfl,rfl,fun h=>absurd h (by omega)⟩,?_⟩
  intro o a w ho F _;have hb:=Mt (P:=P) (isS:=true) (len:=0) (cap:=0) (hi:=Option.none) (h:=0) F hlo rfl (Int.le_refl 0) (Int.le_refl 0) (by omega) w
  simp only [Option.map_none] at hb;simp [execOp,ho,F.eval hx,Instr.sliceAt,Instr.slice,run_underlying hT,hb,E8 hz]
 ·refine ⟨.slice (some (if cap=p then ⟨b,0,Option.none⟩ else ⟨b,p * Rep.n α,Option.none⟩)) (l.length - p) (cap - p),⟨_,_,_,_,_,p,l.length - p,rfl,rfl,by omega,by omega,rfl,fun h=>⟨b,rfl,?_⟩⟩,?_⟩
  ·rw [Ac (by omega)]
  ·intro o a w ho F _;have hb:=Mt (P:=P) (isS:=true) (len:=l.length) (cap:=cap) (hi:=Option.none) (h:=(l.length:Nat)) F hlo rfl (by omega) (by omega) (by omega) w
   simp only [Option.map_none] at hb;simp only [Ay] at hb;by_cases hc:cap=p
   ·subst hc;have hl:l.length=cap:=by omega
    simp only [hl] at hb;simp [execOp,ho,F.eval hx,Instr.sliceAt,Instr.slice,run_underlying hT,hb,E8 hz,hl]
   ·have hcp:¬ cap - p=0:=by omega
    rcases Nat.eq_zero_or_pos (p * Rep.n α) with hm | hm
    ·simp [execOp,ho,F.eval hx,Instr.sliceAt,Instr.slice,run_underlying hT,hb,E8 hz,hc,hcp,Addr.add,hm]
    ·have:¬ p * Rep.n α=0:=by omega
     simp [execOp,ho,F.eval hx,Instr.sliceAt,Instr.slice,run_underlying hT,hb,E8 hz,hc,hcp,Addr.add,this]
theorem ev_idxA {l:List α} {v v2:Value} {k m i:Int} {z:α} {T E:TypeId} {x y:Operand} {ik:IntKind} (hA:Als v k m (Rep.n α) v2) (hi:atA? l k m i=some z) (hT:P.underlying T=some (.slice E)) (hz:(P.info? E).map (·.size)=some (Rep.n α))
  (hx:Bn e x=some v2) (hy:Bn e y=some (.int ik i)):Ev P n e C (.indexAddr T x y) (Eq v (k+i) (Rep.n α)):=by
 obtain ⟨hk0,h0,hlt⟩:=atA?_lt hi;obtain ⟨a,a',len,cap,cap',kn,mn,rfl,rfl,rfl,hl,rfl,hp⟩:=hA;obtain ⟨b,rfl,rfl⟩:=hp (by omega)
 obtain ⟨i,rfl⟩:=Int.eq_ofNat_of_zero_le h0;intro o a w ho F _;have h1:(i:Int) < (mn:Int):=hlt;have e1:((kn:Int)+(i:Int)).toNat=kn+i:=by omega
 have e2:(⟨b,kn * Rep.n α,Option.none⟩:Addr)=(⟨b,0,Option.none⟩:Addr).add (kn * Rep.n α):=by
  unfold Addr.add;split
  ·rename_i h;rw [h]
  ·simp
 have e3:(⟨b,kn * Rep.n α,Option.none⟩:Addr).add ((i:Int).toNat * Rep.n α)=(⟨b,0,Option.none⟩:Addr).add (((kn:Int)+(i:Int)).toNat * Rep.n α):=by
  rw [e1,e2,addr_add2,Ay,B8]
 have h2:=Aau (P:=P) (ad:=⟨b,kn * Rep.n α,Option.none⟩) (len:=mn) (cap:=cap') (k:=ik) hT hz h0 h1 w;rw [e3] at h2;simp [execOp,ho,F.eval hx,F.eval hy,h2,Eq]
def clr? {α:Type} (l:List α) (k m:Int) (z:α):Option (List α):=if 0≤k∧0≤m∧k+m=l.length then some (l.take k.toNat++List.replicate m.toNat z) else Option.none
theorem zeros_cat {g:Gh} {z0:α} {cs:Array Value} (hs:cs.size=Rep.n α) (hz:Rep.rep g z0 cs.toList) (m:Nat):Cat g (List.replicate m z0) (Builtin.zeroCells cs m).toList:=by
 have hlen:(Builtin.zeroCells cs m).toList.length=m * Rep.n α:=by rw [Array.length_toList,Nh,hs]
 refine ⟨by rw [hlen,Gn],?_⟩
 intro j hj;rw [Gn] at hj
 have he:((Builtin.zeroCells cs m).toList.drop (j * Rep.n α)).take (Rep.n α)=cs.toList:=by
  have hle:j * Rep.n α+Rep.n α≤m * Rep.n α:=by
   have:(j+1) * Rep.n α≤m * Rep.n α:=Aq _ hj;rw [B8,Nat.one_mul] at this;exact this
  refine List.ext_getElem (by simp only [Bl,Cd,hlen,Array.length_toList,hs];omega) ?_
  intro i h1 h2;have hi:i < Rep.n α:=by rw [Array.length_toList,hs] at h2;exact h2
  rw [Ew,D3];simp only [Builtin.zeroCells,Array.getElem_toList,Array.getElem_map,Array.getElem_range,hs];have:(j * Rep.n α+i) % Rep.n α=i:=by rw [Nat.mul_comm,Nat.mul_add_mod];exact Vn hi
  rw [this,getElem!_pos cs i (by rw [hs];exact hi)]
 rw [he,List.getElem_replicate];exact hz
theorem wl_clearA {ops:Array Oper} {rest:List Oper} {o:Oper} {Q:Exit→Act→World→Prop} {a:Act} {w:World} {g:Gh} {cks:List Hl} {fr:Hl} {T E:TypeId} {x:Operand} {j bytes:Nat} {k m:Int} {z v v2:Value} {c:Hl} {l l':List α} {z0:α}
  (hg:Region.wanted o (yielded ops a.tmps)=true) (ho:o.op=.call { callee:=.builtin .clear,args:=#[x],argTypes:=#[T] }) (hT:P.underlying T=some (.slice E)) (hE:ElemT P E (Rep.n α) bytes z) (hz0:∀ g,Rep.rep g z0 z.cells.toList)
  (F:Fr n a e) (S:St g cks fr w) (hx:Bn e x=some v2) (hk:cks[j]? = some c) (hr:OwnS g l v c) (hA:Als v k m (Rep.n α) v2) (hm:clr? l k m z0=some l') (hd:o.dst=Option.none)
  (K:∀ c' w',OwnS g l' v c'→St g (cks.set j c') fr w'→wpListIn (RW ρ) 0 P ops Q rest a w'):wpListIn (RW ρ) 0 P ops Q (o::rest) a w:=by
 unfold clr? at hm;split at hm
 case isFalse=>cases hm
 rename_i hb
 cases hm;obtain ⟨av,av',len,cap,cap',kn,mn,rfl,rfl,rfl,hl,rfl,hp⟩:=hA;obtain ⟨_,_,hkm⟩:=hb;have hkl:kn+mn=l.length:=by omega
 have tn:∀ q:Nat,(q:Int).toNat=q:=fun q=>Ay q;rw [tn,tn] at K
 have hset:cks.set j c=cks:=by
  apply List.ext_getElem? ;intro i;rw [List.getElem?_set];split
  ·rename_i h;subst h
   rw [hk];split
   ·rfl
   ·rename_i h';rw [List.getElem?_eq_none (by omega)] at hk;cases hk
  ·rfl
 rcases Nat.eq_zero_or_pos mn with h0 | h0
 ·subst h0
  have hrun:(execOp a.eval o).run P w=.ok (.value (.tuple #[])) w:=by
   cases av' <;> simp [execOp,ho,F.eval hx,resolve,invoke,builtin,Builtin.clear_,run_underlying hT]
  refine Ue hg hrun (by intro d;simp) ?_
  simp only [Oper.uponIn,hd];refine K c w ?_ (by rw [hset];exact S)
  rw [Cn (by omega)]
  simpa using hr
 ·obtain ⟨b,rfl,rfl⟩:=hp h0;rcases hr with ⟨hv,_,_⟩ | ⟨b',cap2,arr,t,hv,rfl,h3,h4,h5⟩
  ·cases hv
  ·injection hv with hv1 hv2 hv3;cases hv1;subst hv3
   have ha:CatA g l arr:=by
    have hO:OwnS g l (rs b 0 l.length cap) [(b,.cells arr t (0,0))]:=.inr ⟨b,cap,arr,t,rfl,rfl,h3,h4,h5⟩;obtain ⟨b'',cap'',arr'',t'',e1,e2,_,_,hca⟩:=hO.open (by intro h;rw [h] at hkl;simp at hkl;omega)
    injection e2 with e2 _;injection e2 with _ e2;injection e2 with e2 _ _;subst e2;exact hca
   have hklt:j < cks.length:=by
    rcases Ec j cks.length with h' | h'
    ·exact h'
    ·simp [List.getElem?_eq_none h'] at hk
   have hbh:=S.heap j hk
   obtain ⟨i,hi⟩:∃ i,P.info? E=some i:=by
    cases h:P.info? E with
    | none=>have:=hE.size;rw [h] at this;cases this
    | some i=>exact ⟨i,rfl⟩
   have hz:i.zero=some z:=by have:=hE.zero;rw [hi] at this;simpa using this
   have hcat:=zeros_cat (α:=α) (g:=g) hE.zsize (hz0 g) mn;have hzl:(Builtin.zeroCells z.cells mn).toList.length=mn * Rep.n α:=by rw [Array.length_toList,Nh,hE.zsize]
   have hfit:(kn+mn) * Rep.n α≤arr.size:=by rw [h4];exact Aq _ (by omega)
   obtain ⟨w',e1,e2,e3,e4,e5,e6,e7,e8⟩:=Qi (P:=P) (w:=w) (b:=b) (c:=arr) (t:=t) (vs:=(Builtin.zeroCells z.cells mn).toList) (kn * Rep.n α) 0 hbh (by rw [Eg,hzl,← B8];exact hfit) hcat.one
   have hrun:(execOp a.eval o).run P w=.ok (.value (.tuple #[])) w':=by
    obtain ⟨m',rfl⟩:∃ m',mn=m'+1:=⟨mn - 1,by omega⟩
    simp [execOp,ho,F.eval hx,resolve,invoke,builtin,Builtin.clear_,run_underlying hT,zeroValue,typeInfo,hi,hz,e1]
   refine Ue hg hrun (by intro d;simp) ?_
   simp only [Oper.uponIn,hd];have hsz:(spl arr (kn * Rep.n α) (Builtin.zeroCells z.cells mn).toList).size=arr.size:=Xa (by rw [hzl,← B8];exact hfit)
   have hsp:=ha.splice (r:=List.replicate mn z0) (p:=kn) hcat (by omega) (by rw [Gn];exact hfit)
   rw [Gn,D8 (by omega),Bh] at hsp
   refine K [(b,.cells (spl arr (kn * Rep.n α) (Builtin.zeroCells z.cells mn).toList) t (0,0))] w' ?_ ?_
   ·have hL:(l.take kn++List.replicate mn z0).length=len:=by simp;omega
    have:=hsp.own (b:=b) (cap:=cap) (t:=t) (by rw [hL];omega) (by rw [hsz,h4])
    rw [hL] at this;exact this
   ·refine St.back j hklt ?_;exact (S.front j hk).write (w':=w') (by rw [e2,Eg]) e3 e5 e6 e7 (Nat.le_of_eq e8.symm)
end
end Go.Dc
set_option linter.unusedVariables false
namespace Go.Dc
open Go
variable {P : Program} {ρ : Option Nat} {n : Fw} {e : List (Nat × Value)} {C : World → Prop}
def NilE {α:Type} (l:List α) (v:Value):Prop:=l=[]→v=.slice Option.none 0 0
def neE? {α:Type} (l:List α):Option Unit:=if l.isEmpty then Option.none else some ()
theorem NilE.nil {α:Type}:NilE ([]:List α) (.slice Option.none 0 0):=fun _=>rfl
theorem NilE.of {α:Type} {l:List α} {v:Value} {u:Unit} (h:neE? l=some u):NilE l v:=by
 intro e;subst e;cases h
section
variable {α : Type} [Rep α]
end
end Go.Dc
set_option linter.unusedVariables false
namespace Go.Dc
open Go
variable {P : Program}
section
variable {α : Type} [Rep α] [ORep α]
structure PW (g:Gh) (l:List α) (rl:List (Raw (Rep.n α))) (ks:List Hl):Prop where
 hl:rl.length=l.length
 hk:ks.length=l.length
 at_:∀ i (h:i < l.length) (h1:i < rl.length) (h2:i < ks.length),ORep.orep g l[i] rl[i].cs ks[i]
theorem PW.mono {g g':Gh} {l:List α} {rl:List (Raw (Rep.n α))} {ks:List Hl} (hl:Le g g') (h:PW g l rl ks):PW g' l rl ks:=⟨h.hl,h.hk,fun i a b c=>ORep.omono hl (h.at_ i a b c)⟩
theorem PW.append {g:Gh} {l m:List α} {rl rm:List (Raw (Rep.n α))} {kl km:List Hl} (h:PW g l rl kl) (h':PW g m rm km):PW g (l++m) (rl++rm) (kl++km) where
 hl:=by rw [Aj,Aj,h.hl,h'.hl]
 hk:=by rw [Aj,Aj,h.hk,h'.hk]
 at_:=by
  intro i a b c;have e1:=h.hl;have e2:=h.hk;by_cases hi:i < l.length
  ·rw [Gb hi,Gb (by omega),Gb (by omega)]
   exact h.at_ i hi _ _
  ·rw [Aj] at a;have e3:=h'.hl;have e4:=h'.hk;rw [Hw (by omega),Hw (by omega),Hw (by omega)]
   have f1:i - rl.length=i - l.length:=by omega
   have f2:i - kl.length=i - l.length:=by omega
   simp only [f1,f2];exact h'.at_ (i - l.length) (by omega) (by omega) (by omega)
theorem PW.take {g:Gh} {l:List α} {rl:List (Raw (Rep.n α))} {ks:List Hl} (h:PW g l rl ks) (p:Nat):PW g (l.take p) (rl.take p) (ks.take p) where
 hl:=by rw [Bl,Bl,h.hl]
 hk:=by rw [Bl,Bl,h.hk]
 at_:=by
  intro i a b c;rw [Ew,Ew,Ew];rw [Bl] at a b c;exact h.at_ i (by omega) (by omega) (by omega)
theorem PW.drop {g:Gh} {l:List α} {rl:List (Raw (Rep.n α))} {ks:List Hl} (h:PW g l rl ks) (p:Nat):PW g (l.drop p) (rl.drop p) (ks.drop p) where
 hl:=by rw [Cd,Cd,h.hl]
 hk:=by rw [Cd,Cd,h.hk]
 at_:=by
  intro i a b c;rw [D3,D3,D3];rw [Cd] at a b c;exact h.at_ (p+i) (by omega) (by omega) (by omega)
theorem PW.own {g:Gh} {l:List α} {v:Value} {ca:Hl} {rl:List (Raw (Rep.n α))} {ks:List Hl} (h:PW g l rl ks) (ho:OwnS g rl v ca):OwnN g l v (ca++ks.flatten) :=
 ⟨rl,ca,ks,ho,Ko _,h.hl,h.hk,h.at_⟩
theorem del?_mk {β:Type} {s:List β} {p q:Nat} (hpq:p≤q) (hq:q≤s.length):del? s (p:Int) (q:Int)=some (s.take p++s.drop q):=by
 unfold del?;rw [Ad (by omega),Ay,Ay]
end
theorem ev_idxArr {n:Fw} {e:List (Nat×Value)} {C:World→Prop} {T E len z m:Nat} {x y:Operand} {k:IntKind} {i:Int} {p q:Value} (hT:P.underlying T=some (.array len E)) (hz:(P.info? E).map (·.size)=some z) (hi:0≤i∧i < len)
  (hx:Bn e x=some p) (hy:Bn e y=some (.int k i)) (hp:∃ a,p=.pointer (some a)) (hm:m=i.toNat * z) (hq:N8 p m=q):Ev P n e C (.indexAddr T x y) q:=by
 intro o a w ho F _;obtain ⟨ad,rfl⟩:=hp;subst hm hq;simp [execOp,ho,F.eval hx,F.eval hy,Instr.indexAt,asIntOf,run_underlying hT,hi.1,hi.2,E8 hz,Instr.sureAddr,N8]
theorem fieldP0 {w:World} {p:Value} {cs cells:List Value} (h:PtrW w p cs) (hc:(cs.drop 0).take cells.length=cells) (hm:0+cells.length≤cs.length):PtrW w p cells:=by
 have:=fieldP 0 h hc hm
 rwa [Uu] at this
def RepH (_:Gh) (l:List Unit) (v:Value):Prop:=l=[]∧∃ n:Int,v=.int .i64 n
theorem RepH.mono {g g':Gh} {l:List Unit} {v:Value} (_:Le g g') (h:RepH g l v):RepH g' l v:=h
theorem RepH.one {g:Gh} {l:List Unit} {v:Value} (h:RepH g l v):Tq v=true:=by obtain ⟨_,n,rfl⟩:=h;rfl
theorem RepH.int {g:Gh} {n:Int}:RepH g ([]:List Unit) (.int .i64 n):=⟨rfl,n,rfl⟩
theorem RepSl.mapR {α β:Type} [Rep α] [Rep β] {f:α→β} {g:Gh} {l:List α} {v:Value} (hf:∀ {g:Gh} {x:α} {cs:List Value},Rep.rep g x cs→Rep.rep g (f x) cs) (hn:Rep.n β=Rep.n α) (h:RepSl g l v):RepSl g (l.map f) v:=by
 rcases h with ⟨rfl,h⟩ | ⟨b,off,cap,c,t,fz,h1,h2,h3,h4,h5⟩
 ·exact .inl ⟨rfl,h⟩
 ·refine .inr ⟨b,off,cap,c,t,fz,by rw [C1];exact h1,by rw [C1];exact h2,h3,by rw [C1,hn];exact h4,fun i hi=>?_⟩
  rw [C1] at hi;rw [List.getElem_map,hn];exact hf (h5 i hi)
theorem OwnS.mapR {α β:Type} [Rep α] [Rep β] {f:α→β} {g:Gh} {l:List α} {v:Value} {c:Hl} (hf:∀ {g:Gh} {x:α} {cs:List Value},Rep.rep g x cs→Rep.rep g (f x) cs) (hn:Rep.n β=Rep.n α) (h:OwnS g l v c):OwnS g (l.map f) v c:=by
 rcases h with ⟨h1,rfl,h2⟩ | ⟨b,cap,arr,t,h1,h2,h3,h4,h5⟩
 ·exact .inl ⟨h1,rfl,h2⟩
 ·refine .inr ⟨b,cap,arr,t,by rw [C1];exact h1,h2,by rw [C1];exact h3,by rw [hn];exact h4,fun i hi=>?_⟩
  rw [C1] at hi;rw [List.getElem_map,hn];exact hf (h5 i hi)
end Go.Dc
set_option linter.unusedVariables false
namespace Go.Dc
open Go
variable {P : Program} {ρ : Option Nat} {n : Fw} {e : List (Nat × Value)} {C : World → Prop}
abbrev K2:=Int×Int
def keyV (k:K2):Value:=.agg #[.int .i64 k.1,.int .i64 k.2]
structure Key2 (P:Program) (K I:TypeId) (n1 n2:String):Prop where
 str:P.underlying K=some (.struct (P.fieldsOf K))
 held:P.stoodInHeld K=false
 flds:(P.fieldsOf K).toList.map (fun f=>(f.name,f.type,f.offset))=[(n1,I,0),(n2,I,1)]
 ne1 : n1 ≠ "_"
 ne2 : n2 ≠ "_"
 int:P.underlying I=some (.int .i64)
theorem Key2.eq {K I:TypeId} {n1 n2:String} (h:Key2 P K I n1 n2) (a b:K2) (w:World):(Op.equal K (keyV a) (keyV b)).run P w=.ok (decide (a=b)) w:=by
 have h1:Uv P [.int .i64 a.1,.int .i64 a.2] [.int .i64 b.1,.int .i64 b.2] [(n1,I,0),(n2,I,1)] [decide (a.1=b.1),decide (a.2=b.2)] :=
  ⟨_,_,rfl,h.ne1,⟨_,_,rfl,rfl,Xc h.int⟩,_,_,rfl,h.ne2,⟨_,_,rfl,rfl,Xc h.int⟩,rfl⟩
 have:=run_eqS h.str h.held h.flds h1 w;refine this.trans ?_;congr 1;simp only [allB];rw [Kr];simp [Prod.ext_iff]
def mget {β:Type}:List (K2×β)→K2→Option β
 | [],_=>Option.none
 | p::r,k=>if p.1=k then some p.2 else mget r k
def mput {β:Type}:List (K2×β)→K2→β→List (K2×β)
 | [],k,v=>[(k,v)]
 | p::r,k,v=>if p.1=k then (p.1,v)::r else p::mput r k v
def EntR (es:List MapEntry) (l:List (K2×Value)):Prop:=es.map (fun e=>(e.key,e.val))=l.map fun p=>(keyV p.1,p.2)
theorem EntR.cons {x:MapEntry} {es:List MapEntry} {l:List (K2×Value)} (h:EntR (x::es) l):∃ p r,l=p::r∧x.key=keyV p.1∧x.val=p.2∧EntR es r:=by
 cases l with
 | nil=>simp [EntR] at h
 | cons p r =>
  simp only [EntR,Dg,List.cons.injEq,Prod.mk.injEq] at h;exact ⟨p,r,rfl,h.1.1,h.1.2,h.2⟩
abbrev mb (b:Nat) (es:Array MapEntry) (clock:Nat):Hl:=[(b,.map es clock)]
def OwnB (g:Gh) (l:List (K2×Bool)) (v:Value) (c:Hl):Prop:=∃ b es clock,v=.map (some b)∧c=mb b es clock∧EntR es.toList (l.map fun p=>(p.1,Value.bool p.2))
theorem OwnB.mono {g g':Gh} {l:List (K2×Bool)} {v:Value} {c:Hl} (hl:Le g g') (h:OwnB g l v c):OwnB g' l v c:=h
theorem OwnB.one {g:Gh} {l:List (K2×Bool)} {v:Value} {c:Hl} (h:OwnB g l v c):Tq v=true:=by obtain ⟨b,es,clock,rfl,_⟩:=h;rfl
theorem OwnB.cl {g:Gh} {l:List (K2×Bool)} {v:Value} {c:Hl} (h:OwnB g l v c):v.cells.toList=[v]:=by obtain ⟨b,es,clock,rfl,_⟩:=h;rfl
theorem OwnB.csz {g:Gh} {l:List (K2×Bool)} {v:Value} {c:Hl} (h:OwnB g l v c):v.cells.size=1:=by obtain ⟨b,es,clock,rfl,_⟩:=h;rfl
section
variable {α : Type} [Rep α]
def Rows (g:Gh):List (K2×Option (List α))→List (K2×Value)→Hl→Prop
 | [],vl,c=>vl=[]∧c=[]
 | (k,Option.none)::r,vl,c=>∃ v vr,vl=(k,v)::vr∧Rows g r vr c
 | (k,some l)::r,vl,c=>∃ v c1 vr cr,vl=(k,v)::vr∧c=c1++cr∧OwnS g l v c1∧Rows g r vr cr
theorem Rows.mono {g g':Gh} (hl:Le g g'):∀ {l:List (K2×Option (List α))} {vl:List (K2×Value)} {c:Hl},Rows g l vl c→Rows g' l vl c
 | [],_,_,h=>h
 | (k,Option.none)::r,_,_,h=>by
  obtain ⟨v,vr,h1,h2⟩:=h;exact ⟨v,vr,h1,Rows.mono hl h2⟩
 | (k,some l)::r,_,_,h=>by
  obtain ⟨v,c1,vr,cr,h1,h2,h3,h4⟩:=h;exact ⟨v,c1,vr,cr,h1,h2,h3.mono hl,Rows.mono hl h4⟩
def lookM {α:Type} (l:List (K2×Option (List α))) (k:K2):Option (List α) :=
 match mget l k with
 | Option.none=>some []
 | some o=>o
def deadM {α:Type} (l:List (K2×Option (List α))) (k:K2):List (K2×Option (List α)) :=
 match mget l k with
 | Option.none=>l
 | some _=>mput l k Option.none
theorem Rows.out {g:Gh} (k:K2):∀ {l:List (K2×Option (List α))} {vl:List (K2×Value)} {c:Hl},Rows g l vl c→∀ x,lookM l k=some x →
  ∃ u c1 c2,(mget vl k).getD (.slice Option.none 0 0)=u∧OwnS g x u c1∧Rows g (deadM l k) vl c2∧c.Perm (c1++c2)
 | [],vl,c,h,x,hx=>by
  obtain ⟨rfl,rfl⟩:=h;simp [lookM,mget] at hx;subst hx;exact ⟨_,[],[],rfl,OwnS.nil g,⟨rfl,rfl⟩,Ko _⟩
 | (k',o)::r,vl,c,h,x,hx=>by
  by_cases hk:k'=k
  ·subst hk;cases o with
   | none=>simp [lookM,mget] at hx
   | some l' =>
    simp [lookM,mget] at hx;subst hx;obtain ⟨v,c1,vr,cr,rfl,rfl,h3,h4⟩:=h;exact ⟨v,c1,cr,by simp [mget],h3,by simp only [deadM,mget,E4,mput];exact ⟨v,vr,rfl,h4⟩,Ko _⟩
  ·have hx':lookM r k=some x:=by simpa [lookM,mget,hk] using hx
   have hd:deadM ((k',o)::r) k=(k',o)::deadM r k:=by
    simp only [deadM,mget,Ac hk];split <;> simp [mput,hk]
   rw [hd];cases o with
   | none =>
    obtain ⟨v,vr,rfl,h2⟩:=h;obtain ⟨u,c1,c2,e1,e2,e3,e4⟩:=Rows.out k h2 x hx';exact ⟨u,c1,c2,by simpa [mget,hk] using e1,e2,⟨v,vr,rfl,e3⟩,e4⟩
   | some l' =>
    obtain ⟨v,c0,vr,cr,rfl,rfl,h3,h4⟩:=h;obtain ⟨u,c1,c2,e1,e2,e3,e4⟩:=Rows.out k h4 x hx';refine ⟨u,c1,c0++c2,by simpa [mget,hk] using e1,e2,⟨v,c0,vr,c2,rfl,rfl,h3,e3⟩,?_⟩
    exact (Ee c0 e4).trans (by rw [← Am,← Am];exact E2 _ E5)
theorem Rows.put {g:Gh} (k:K2) {x:List α} {u:Value} {c1:Hl} (hu:OwnS g x u c1):∀ {l:List (K2×Option (List α))} {vl:List (K2×Value)} {c:Hl},Rows g l vl c →
  ∃ c' cl,Rows g (mput l k (some x)) (mput vl k u) c'∧(c++c1).Perm (cl++c')
 | [],vl,c,h=>by
  obtain ⟨rfl,rfl⟩:=h;exact ⟨c1,[],⟨u,c1,[],[],rfl,by simp,hu,rfl,rfl⟩,by simp⟩
 | (k',o)::r,vl,c,h=>by
  by_cases hk:k'=k
  ·subst hk;cases o with
   | none =>
    obtain ⟨v,vr,rfl,h2⟩:=h;refine ⟨c1++c,[],?_,by simpa using E5⟩
    simp only [mput,E4];exact ⟨u,c1,vr,c,rfl,rfl,hu,h2⟩
   | some l' =>
    obtain ⟨v,c0,vr,cr,rfl,rfl,h3,h4⟩:=h;refine ⟨c1++cr,c0,?_,?_⟩
    ·simp only [mput,E4];exact ⟨u,c1,vr,cr,rfl,rfl,hu,h4⟩
    ·rw [Am];exact Ee _ E5
  ·simp only [mput,Ac hk];cases o with
   | none =>
    obtain ⟨v,vr,rfl,h2⟩:=h;obtain ⟨c',cl,e1,e2⟩:=Rows.put k hu h2;exact ⟨c',cl,by simp only [mput,Ac hk];exact ⟨v,_,rfl,e1⟩,e2⟩
   | some l' =>
    obtain ⟨v,c0,vr,cr,rfl,rfl,h3,h4⟩:=h;obtain ⟨c',cl,e1,e2⟩:=Rows.put k hu h4;refine ⟨c0++c',cl,by simp only [mput,Ac hk];exact ⟨v,c0,_,c',rfl,rfl,h3,e1⟩,?_⟩
    rw [Am];refine (Ee c0 e2).trans ?_;rw [← Am,← Am];exact E2 _ E5
def OwnR (g:Gh) (l:List (K2×Option (List α))) (v:Value) (c:Hl):Prop:=∃ b es clock vl cr,v=.map (some b)∧c=mb b es clock++cr∧EntR es.toList vl∧Rows g l vl cr
theorem OwnR.mono {g g':Gh} {l:List (K2×Option (List α))} {v:Value} {c:Hl} (hl:Le g g') (h:OwnR g l v c):OwnR g' l v c:=by
 obtain ⟨b,es,clock,vl,cr,h1,h2,h3,h4⟩:=h;exact ⟨b,es,clock,vl,cr,h1,h2,h3,h4.mono hl⟩
theorem OwnR.one {g:Gh} {l:List (K2×Option (List α))} {v:Value} {c:Hl} (h:OwnR g l v c):Tq v=true:=by obtain ⟨b,es,clock,vl,cr,rfl,_⟩:=h;rfl
theorem OwnR.cl {g:Gh} {l:List (K2×Option (List α))} {v:Value} {c:Hl} (h:OwnR g l v c):v.cells.toList=[v]:=by obtain ⟨b,es,clock,vl,cr,rfl,_⟩:=h;rfl
theorem OwnR.csz {g:Gh} {l:List (K2×Option (List α))} {v:Value} {c:Hl} (h:OwnR g l v c):v.cells.size=1:=by obtain ⟨b,es,clock,vl,cr,rfl,_⟩:=h;rfl
def LkR (v:Value) (k:K2) (u:Value) (c:Hl):Prop:=∃ b es clock vl cr,v=.map (some b)∧c=mb b es clock++cr∧EntR es.toList vl∧(mget vl k).getD (.slice Option.none 0 0)=u
theorem OwnR.look {g:Gh} {l:List (K2×Option (List α))} {v:Value} {c:Hl} (h:OwnR g l v c) {k:K2} {x:List α} (hx:lookM l k=some x) :
  ∃ u c1 c2,OwnS g x u c1∧OwnR g (deadM l k) v c2∧LkR v k u c2∧c.Perm (c1++c2):=by
 obtain ⟨b,es,clock,vl,cr,rfl,rfl,h3,h4⟩:=h;obtain ⟨u,c1,c2,e1,e2,e3,e4⟩:=h4.out k x hx;refine ⟨u,c1,mb b es clock++c2,e2,⟨b,es,clock,vl,c2,rfl,rfl,h3,e3⟩,⟨b,es,clock,vl,c2,rfl,rfl,h3,e1⟩,?_⟩;refine (Ee _ e4).trans ?_;rw [← Am,← Am];exact E2 _ E5
theorem St0.get {g:Gh} {o:Hl} {w:World} (S:St0 g o w) {b:Nat} {x:Obj} (h:(b,x)∈o):w.heap[b]? = some x:=(S.own (b,x) h).1
end
end Go.Dc
set_option linter.unusedVariables false
namespace Go.Dc
open Go
variable {P : Program} {ρ : Option Nat} {n : Fw} {e : List (Nat × Value)} {C : World → Prop}
theorem eval_all {a:Act} (F:Fr n a e):∀ {xs:List Operand} {vs:List Value},xs.map (Bn e)=vs.map some→xs.map a.eval=vs
 | [],[],_=>rfl
 | [],_::_,h=>by simp at h
 | _::_,[],h=>by simp at h
 | x::xs,v::vs,h=>by
  simp only [Dg,List.cons.injEq] at h ⊢;exact ⟨F.eval h.1,eval_all F h.2⟩
theorem ev_makeFuncF {f:FuncId} {ys xs:List Operand} {us vs:List Value} (hys:ys.map (Bn e)=us.map some) (hxs:xs.map (Bn e)=vs.map some):Ev P n e C (.makeFunc (.func f) ys.toArray xs.toArray) (.func (.func f) us.toArray vs.toArray):=by
 intro o a w ho F _;have h1:=eval_all F hys;have h2:=eval_all F hxs;simp [execOp,ho,Instr.makeFunc,h1,h2]
theorem wl_callF {ops:Array Oper} {rest:List Oper} {o:Oper} {Q:Exit→Act→World→Prop} {a:Act} {w:World} {f:Operand} {fn:FuncId} {fst cap:List Value} {xs:List Operand} {vs:List Value} {A:Array TypeId} {d:Nat} {R:Value→World→Prop}
  (hg:Region.wanted o (yielded ops a.tmps)=true) (ho:o.op=.call { callee:=.value f,args:=xs.toArray,argTypes:=A }) (F:Fr n a e) (hf:Bn e f=some (.func (.func fn) fst.toArray cap.toArray)) (hxs:xs.map (Bn e)=vs.map some)
  (hent:∀ args w,(callFunc fn args).run P w=.ok (.enter fn args) w) (hc:Calls P fn (fst++vs++cap).toArray w (fun en w'=>∃ v,en=.returned v∧R v w')) (hd:o.dst=some d) (hn:Nat.blt d n.sz=true)
  (K:∀ v a' w',R v w'→Fr n a' ((d,v)::e)→wpListIn (RW ρ) 0 P ops Q rest a' w'):wpListIn (RW ρ) 0 P ops Q (o::rest) a w:=by
 have hm:=eval_all F hxs
 have hrun:(execOp a.eval o).run P w=.ok (.enter fn (fst++vs++cap).toArray) w:=by
  simp [execOp,ho,resolve,F.eval hf,Deferred.ofValue,hm,invoke,hent]
 refine Ue hg hrun (by intro d;simp) ?_
 simp only [Oper.uponIn];refine ⟨(fun h=>by cases h),(Zn.2 hc).mono ?_⟩
 rintro en w' ⟨v,rfl,hR⟩;simp only [hd];exact K v _ w' hR (F.put hn)
def u8w (p:Int):UInt8:=UInt8.ofNat (IntKind.u8.wrap p).toNat
theorem u8_wrap (p:Int):0≤IntKind.u8.wrap p∧IntKind.u8.wrap p < 256:=by
 simp only [IntKind.wrap,IntKind.bits,IntKind.signed];constructor
 ·simp;omega
 ·simp;omega
theorem u8w_val (p:Int):(((u8w p).toNat:Nat):Int)=IntKind.u8.wrap p:=by
 have h:=u8_wrap p;unfold u8w;rw [UInt8.toNat_ofNat'];omega
theorem ev_convU {T T':TypeId} {x:Operand} {k:IntKind} {p:Int} {r:UInt8} (h:some (u8w p)=some r) (hT:P.underlying T=some (.int k)) (hT':P.underlying T'=some (.int .u8)) (hx:Bn e x=some (.int k p)):Ev P n e C (.convert T T' x) (.int .u8 (r.toNat:Nat)):=by
 obtain rfl:=Gg h;intro o a w ho F _;simp [execOp,ho,F.eval hx,convert,run_underlying hT,run_underlying hT',Conv.intToInt,u8w_val]
def pm:List Nat→List Hl→List Hl
 | [],_=>[]
 | i::is,l=>l.getD i []::pm is (l.set i [])
theorem pm_sub {g:Gh} {fr:Hl} {w:World}:∀ (is:List Nat) (l:List Hl) (pre:Hl),St0 g (pre++fl l fr) w→St0 g (pre++fl (pm is l) fr) w
 | [],l,pre,h=>h.sub ((fl_sub [] l fr).append_left pre)
 | i::is,l,pre,h=>by
  have h2:St0 g ((pre++l.getD i [])++fl (l.set i []) fr) w:=by
   rw [Am];refine h.perm (Ee pre ?_);by_cases hi:i < l.length
   ·have e:l[i]? = some (l.getD i []):=by simp [List.getD,hi]
    exact (fl_set_perm e)
   ·rw [Ny (by omega)]
    have e:l.getD i []=[]:=by simp [List.getD,hi]
    rw [e];exact Ko _
  have:=pm_sub is _ _ h2;rw [Am] at this;exact this
theorem St.pm {g:Gh} {l:List Hl} {fr:Hl} {w:World} (S:St g l fr w) (is:List Nat):St g (pm is l) fr w:=pm_sub is l [] S
theorem St.z {g:Gh} {l:List Hl} {fr:Hl} {w:World} (S:St g l fr w):St g [] (fl l fr) w:=S
theorem St.y {g:Gh} {l:List Hl} {fr:Hl} {w:World} (S:St g [] (fl l fr) w):St g l fr w:=S
theorem St.y1 {g:Gh} {c:Hl} {l:List Hl} {fr:Hl} {w:World} (S:St g [c] (fl l fr) w):St g (c::l) fr w:=S
theorem wc {P:Program} {ρ:Option Nat} {n:Fw} {e:List (Nat×Value)} {ops:Array Oper} {rest:List Oper} {o:Oper} {Q:Exit→Act→World→Prop} {a:Act} {w:World} {f:Operand} {fn:FuncId} {xs:List Operand} {vs:List Value} {A:Array TypeId} {d:Nat} {R:Value→World→Prop}
  (F:Fr n a e) (hc:Calls P fn vs.toArray w (fun en w'=>∃ v,en=.returned v∧R v w')) (hent:∀ args w,(callFunc fn args).run P w=.ok (.enter fn args) w) (K:∀ v a' w',R v w'→Fr n a' ((d,v)::e)→wpListIn (RW ρ) 0 P ops Q rest a' w')
  (ho:o.op=.call { callee:=.value f,args:=xs.toArray,argTypes:=A }:=by exact rfl) (hf:Bn e f=some (.func (.func fn) #[] #[]):=by exact rfl) (hxs:xs.map (Bn e)=vs.map some:=by exact rfl) (hd:o.dst=some d:=by exact rfl) (hn:Nat.blt d n.sz=true:=by exact rfl) (hg:o.guard=Option.none:=by exact rfl):wpListIn (RW ρ) 0 P ops Q (o::rest) a w :=
 Ug (wn hg) ho F hf hc hxs hent hd hn K
theorem ws {P:Program} {ρ:Option Nat} {n:Fw} {e:List (Nat×Value)} {ops:Array Oper} {rest:List Oper} {o:Oper} {Q:Exit→Act→World→Prop} {a:Act} {w:World} {g:Gh} {cks:List Hl} {fr:Hl} {T t:TypeId} {x y:Operand} {b off:Nat} {v:Value} {c:Array Value}
  (ho:o.op=.store T x y) (F:Fr n a e) (S:St g cks fr w) (hx:Bn e x=some (.pointer (some ⟨b,off,Option.none⟩))) (vs:List Value) (hz:(P.info? T).map (·.size)=some vs.length) (h1:∀ u∈vs,Tq u=true) (k:Nat) (hk:cks[k]? = some [(b,.cells c t (0,0))]) (c':Array Value)
  (K:∀ w',St g (cks.set k [(b,.cells c' t (0,0))]) fr w'→wpListIn (RW ρ) 0 P ops Q rest a w') (hy:Bn e y=some v:=by exact rfl) (hcl:v.cells.toList=vs:=by exact rfl) (hl:Nat.ble (off+vs.length) c.size=true:=by exact rfl) (hc':spl c off vs=c':=by exact rfl) (hd:o.dst=Option.none:=by exact rfl) (hg:o.guard=Option.none:=by exact rfl):wpListIn (RW ρ) 0 P ops Q (o::rest) a w :=
 Tn (wn hg) ho F S hx hy hcl hz h1 hk (lb hl) hc' hd K
theorem St.e0 {g:Gh} {l:List Hl} {fr:Hl} {w:World} (S:St g l fr w):St g ([]::l) fr w:=S
theorem St.fz {α:Type} [Rep α] {g:Gh} {cs:List Hl} {fr:Hl} {w:World} {x:List α} {v:Value} {c:Hl} (S:St g cs fr w) (k:Nat) (hk:cs[k]? = some c) (h:OwnS g x v c):∃ gz,Le g gz∧St gz (cs.eraseIdx k) fr w∧RepSl gz x v :=
 ⟨_,Le.add _ _,S.freeze k hk,OwnS.freeze (S.front k hk) h⟩
theorem Fr.s {n:Fw} {a:Act} {e e':List (Nat×Value)} (F:Fr n a e) (h:Sub e e':=by repeat (first | exact trivial | refine ⟨rfl,?_⟩)):Fr n a e':=F.sub h
theorem Y {P:Program} {ρ:Option Nat} {n:Fw} {e:List (Nat×Value)} {C:World→Prop} {ops:Array Oper} {rest:List Oper} {o:Oper} {Q:Exit→Act→World→Prop} {w:World} {v:Value} {d:Nat}
  (hev:Ev P n e C o.op v) (hC:C w) (hd:o.dst=some d) (k:∀ a',Fr n a' ((d,v)::e)→wpListIn (RW ρ) 0 P ops Q rest a' w) (hg:o.guard=Option.none:=by rfl) (hn:Nat.blt d n.sz=true:=by rfl):∀ a,Fr n a e→wpListIn (RW ρ) 0 P ops Q (o::rest) a w :=
 fun a F=>wE hev F hC hd k hg hn
theorem e1 {P:Program} {n:Fw} {e:List (Nat×Value)} {g:Gh} {cs:List Hl} {fr:Hl} {T:TypeId} {d:TypeDesc} {x:Operand} {b:Nat} {l:List Value} {t:TypeId} {fz:Nat×Nat} (hT:P.underlying T=some d) (v:Value) (k off:Nat) (hd:W9 d=false:=by exact rfl) (hx:Bn e x=some (.pointer (some ⟨b,off,Option.none⟩)):=by exact rfl) (hk:cs[k]? = some [(b,.cells l.toArray t fz)]:=by exact rfl) (hc:(l.drop off).take 1=[v]:=by exact rfl) (hm:Nat.ble (off+1) l.length=true:=by exact rfl):Ev P n e (fun w=>St g cs fr w) (.load T x) v:=Gs hT hd hx (Ur (cells:=[v]) k hk off hc (lb hm))
theorem eA {P:Program} {n:Fw} {e:List (Nat×Value)} {g:Gh} {cs:List Hl} {fr:Hl} {T:TypeId} {d:TypeDesc} {x:Operand} {b:Nat} {l:List Value} {t:TypeId} {fz:Nat×Nat} (hT:P.underlying T=some d) (cells:List Value) (hs:(P.info? T).map (·.size)=some cells.length) (k off:Nat) (hd:W9 d=true:=by exact rfl) (hx:Bn e x=some (.pointer (some ⟨b,off,Option.none⟩)):=by exact rfl) (hk:cs[k]? = some [(b,.cells l.toArray t fz)]:=by exact rfl) (hc:(l.drop off).take cells.length=cells:=by exact rfl) (hm:Nat.ble (off+cells.length) l.length=true:=by exact rfl):Ev P n e (fun w=>St g cs fr w) (.load T x) (.agg cells.toArray):=Lg hT hd hs hx (Ur (cells:=cells) k hk off hc (lb hm))
theorem eF {P:Program} {n:Fw} {e:List (Nat×Value)} {C:World→Prop} {T:TypeId} {fs:Array Field} {x:Operand} {a:Addr} {q:Value} {i k m:Nat} {ft:TypeId} (hT:P.underlying T=some (.struct fs)) (hf:(fs[i]?).map (fun f=>(f.offset,f.type))=some (k,ft)) (hz:(P.info? ft).map (·.size)=some m) (hx:Bn e x=some (.pointer (some a)):=by exact rfl) (hq:N8 (.pointer (some a)) k=q:=by exact rfl) (hm:Nat.blt 0 m=true:=by exact rfl):Ev P n e C (.fieldAddr T x i) q:=by
 cases m with
 | zero=>cases hm
 | succ z=>exact E6 hT hf hz hx ⟨a,rfl⟩ hq
theorem eB {P:Program} {n:Fw} {e:List (Nat×Value)} {C:World→Prop} {T:TypeId} {parts:List (Nat×Operand)} {vs:List (Nat×Value)} {v:Value} (h:∀ w,(Instr.build T vs.toArray).run P w=.ok v w) (hp:parts.map (fun p=>(p.1,Bn e p.2))=vs.map (fun p=>(p.1,some p.2)):=by exact rfl):Ev P n e C (.build T parts.toArray) v:=Hp hp h
theorem rA {P:Program} {e:List (Nat×Value)} {w:World} {g:Gh} {cs:List Hl} {fr:Hl} {t T:Nat} {d:TypeDesc} {b:Nat} {l:List Value} {ty:TypeId} {fz:Nat×Nat} (hT:P.underlying T=some d) (cells:List Value) (hs:(P.info? T).map (·.size)=some cells.length) (k off:Nat) (S:St g cs fr w) (h:Kf e t=some (.pointer (some ⟨b,off,Option.none⟩)):=by exact rfl) (hd:W9 d=true:=by exact rfl) (hk:cs[k]? = some [(b,.cells l.toArray ty fz)]:=by exact rfl) (hc:(l.drop off).take cells.length=cells:=by exact rfl) (hm:Nat.ble (off+cells.length) l.length=true:=by exact rfl):ResV P e w (.cell t T) (.agg cells.toArray) :=
 resA h hT hd (Ur (cells:=cells) k hk off hc (lb hm) w S) hs
theorem rT {P:Program} {e:List (Nat×Value)} {w:World} {t:Nat} {v:Value} (h:Kf e t=some v):Qx P e w [.tmp t] [v]:=H6 (resT h) Mz
theorem po {P:Program} {e:List (Nat×Value)} {fn:Func} {R:Ending→World→Prop} {a:Act} {w:World} {rs:List ResultVar} {vs:List Value} {m:Nat} (F:Fr ⟨m,[]⟩ a e) (hr:fn.results=rs.toArray) (h:Qx P e w rs vs) (hR:R (.returned (pack vs)) w):bodyPost P fn R .ret a w:=post_r vs F hr h hR
section sq2
variable {P : Program} {ρ : Option Nat} {n : Fw} {e : List (Nat × Value)} {C : World → Prop} {ops : Array Oper} {rest : List Oper} {o : Oper} {Q : Exit → Act → World → Prop} {a : Act} {w : World} {v : Value} {d : Nat} {x : Operand}
theorem wm (ho:o.op=.move x) (F:Fr n a e) (hx:Bn e x=some v) (hd:o.dst=some d) (k:∀ a',Fr n a' ((d,v)::e)→wpListIn (RW ρ) 0 P ops Q rest a' w) (hg:o.guard=Option.none:=by exact rfl) (hn:Nat.blt d n.sz=true:=by exact rfl):wpListIn (RW ρ) 0 P ops Q (o::rest) a w:=wl_ev (C:=fun _=>True) (wn hg) (by rw [ho];exact Bj hx) F trivial hd hn k
theorem wa1 (ho:o.op=.assign x) (F:Fr n a e) (hx:Bn e x=some v) (hd:o.dst=some d) (k:∀ a',Fr n a' ((d,v)::e)→wpListIn (RW ρ) 0 P ops Q rest a' w) (hg:o.guard=Option.none:=by exact rfl) (hn:Nat.blt d n.sz=true:=by exact rfl):wpListIn (RW ρ) 0 P ops Q (o::rest) a w:=wl_ev (C:=fun _=>True) (wn hg) (by rw [ho];exact K4 hx) F trivial hd hn k
theorem mv (ho:o.op=.move x) (hx:Bn e x=some v) (hd:o.dst=some d) (k:∀ a',Fr n a' ((d,v)::e)→wpListIn (RW ρ) 0 P ops Q rest a' w) (hg:o.guard=Option.none:=by exact rfl) (hn:Nat.blt d n.sz=true:=by exact rfl):∀ a,Fr n a e→wpListIn (RW ρ) 0 P ops Q (o::rest) a w:=fun _ F=>wm ho F hx hd k hg hn
theorem ma (ho:o.op=.assign x) (hx:Bn e x=some v) (hd:o.dst=some d) (k:∀ a',Fr n a' ((d,v)::e)→wpListIn (RW ρ) 0 P ops Q rest a' w) (hg:o.guard=Option.none:=by exact rfl) (hn:Nat.blt d n.sz=true:=by exact rfl):∀ a,Fr n a e→wpListIn (RW ρ) 0 P ops Q (o::rest) a w:=fun _ F=>wa1 ho F hx hd k hg hn
theorem nn {K:Act→World→Prop} (h:K a w):wpListIn (RW ρ) 0 P ops (Exit.then K Q) [] a w:=h
theorem gE {j t:Nat} {want b:Bool} (hc:b=want) (hev:Ev P n e C o.op v) (F:Fr n a e) (hC:C w) (hd:o.dst=some d) (k:∀ a',Fr n a' ((d,v)::e)→wpListIn (RW ρ) 0 P ops Q rest a' w) (hg:o.guard=some (j,want):=by exact rfl) (hj:(ops[j]?).bind (·.dst)=some t:=by exact rfl) (ht:Nat.blt t n.sz=true:=by exact rfl) (hb:Kf e t=some (.bool b):=by exact rfl) (hn:Nat.blt d n.sz=true:=by exact rfl):wpListIn (RW ρ) 0 P ops Q (o::rest) a w:=wl_ev (wg F hg hj ht hb hc) hev F hC hd hn k
theorem Ge {j t:Nat} {want b:Bool} (hc:b=want) (hev:Ev P n e C o.op v) (hC:C w) (hd:o.dst=some d) (k:∀ a',Fr n a' ((d,v)::e)→wpListIn (RW ρ) 0 P ops Q rest a' w) (hg:o.guard=some (j,want):=by exact rfl) (hj:(ops[j]?).bind (·.dst)=some t:=by exact rfl) (ht:Nat.blt t n.sz=true:=by exact rfl) (hb:Kf e t=some (.bool b):=by exact rfl) (hn:Nat.blt d n.sz=true:=by exact rfl):∀ a,Fr n a e→wpListIn (RW ρ) 0 P ops Q (o::rest) a w:=fun _ F=>wl_ev (wg F hg hj ht hb hc) hev F hC hd hn k
theorem wk {j t:Nat} {want b:Bool} (hne:(b == want)=false) (F:Fr n a e) (hd:o.dst=some d) (k:∀ a',Fr n a' ((d,undef)::e)→wpListIn (RW ρ) 0 P ops Q rest a' w) (hg:o.guard=some (j,want):=by exact rfl) (hj:(ops[j]?).bind (·.dst)=some t:=by exact rfl) (ht:Nat.blt t n.sz=true:=by exact rfl) (hb:Kf e t=some (.bool b):=by exact rfl) (hn:Nat.blt d n.sz=true:=by exact rfl):wpListIn (RW ρ) 0 P ops Q (o::rest) a w:=wl_skip hg hj ht hb hne F hd hn k
theorem Wk {j t:Nat} {want b:Bool} (hne:(b == want)=false) (hd:o.dst=some d) (k:∀ a',Fr n a' ((d,undef)::e)→wpListIn (RW ρ) 0 P ops Q rest a' w) (hg:o.guard=some (j,want):=by exact rfl) (hj:(ops[j]?).bind (·.dst)=some t:=by exact rfl) (ht:Nat.blt t n.sz=true:=by exact rfl) (hb:Kf e t=some (.bool b):=by exact rfl) (hn:Nat.blt d n.sz=true:=by exact rfl):∀ a,Fr n a e→wpListIn (RW ρ) 0 P ops Q (o::rest) a w:=fun _ F=>wl_skip hg hj ht hb hne F hd hn k
theorem wA {g:Gh} {cks:List Hl} {fr:Hl} {T:TypeId} {z:Value} (ho:o.op=.alloc T) (hz:(P.info? T).bind (·.zero)=some z) (cs:List Value) (F:Fr n a e) (S:St g cks fr w) (hd:o.dst=some d) (K:∀ b a' w',Fr n a' ((d,.pointer (some ⟨b,0,Option.none⟩))::e)→St g ([(b,.cells cs.toArray T (0,0))]::cks) fr w'→wpListIn (RW ρ) 0 P ops Q rest a' w') (hcs:z.cells=cs.toArray:=by exact rfl) (hn:Nat.blt d n.sz=true:=by exact rfl) (hg:o.guard=Option.none:=by exact rfl):wpListIn (RW ρ) 0 P ops Q (o::rest) a w:=wl_alloc (wn hg) ho hz hcs F S hd hn K
theorem wb {g:Gh} {cks:List Hl} {fr:Hl} {T:TypeId} {cs:List Value} (ho:o.op=.box T x) (hx:Bn e x=some v) (hcl:v.cells.toList=cs) (F:Fr n a e) (S:St g cks fr w) (hd:o.dst=some d) (K:∀ b a' w',Fr n a' ((d,.pointer (some ⟨b,0,Option.none⟩))::e)→St g ([(b,.cells cs.toArray T (0,0))]::cks) fr w'→wpListIn (RW ρ) 0 P ops Q rest a' w') (hn:Nat.blt d n.sz=true:=by exact rfl) (hg:o.guard=Option.none:=by exact rfl):wpListIn (RW ρ) 0 P ops Q (o::rest) a w:=wl_boxC (wn hg) ho hx hcl F S hd hn K
theorem qE {Q:Act→Prop} (hev:Ev P n e C o.op v) (F:Fr n a e) (hd:o.dst=some d) (k:∀ a',Fr n a' ((d,v)::e)→wpQuiet P ops C Q rest a') (hg:o.guard=Option.none:=by exact rfl) (hn:Nat.blt d n.sz=true:=by exact rfl):wpQuiet P ops C Q (o::rest) a:=Mh (wn hg) hev F hd hn k
theorem Qe {Q:Act→Prop} (hev:Ev P n e C o.op v) (hd:o.dst=some d) (k:∀ a',Fr n a' ((d,v)::e)→wpQuiet P ops C Q rest a') (hg:o.guard=Option.none:=by exact rfl) (hn:Nat.blt d n.sz=true:=by exact rfl):∀ a,Fr n a e→wpQuiet P ops C Q (o::rest) a:=fun _ F=>Mh (wn hg) hev F hd hn k
theorem sr {id:Nat} {l:List Oper} {y:Code} (h:wpListIn (RW ρ) 0 P l.toArray (Exit.then (y.wpIn (RW ρ) 0 P Q) Q) l a w):(Code.seq (Code.region id l.toArray false) y).wpIn (RW ρ) 0 P Q a w:=Cy (B1 h)
theorem nq {id:Nat} {l:List Oper} {y:Code} {Q2:Exit→Act→World→Prop} (h:wpListIn (RW ρ) 0 P l.toArray (Exit.then (y.wpIn (RW ρ) 0 P Q) Q) l a w):wpListIn (RW ρ) 0 P ops (Exit.then ((Code.seq (Code.region id l.toArray false) y).wpIn (RW ρ) 0 P Q) Q2) [] a w:=Cy (B1 h)
theorem rr {K:Act→World→Prop} (h:Q .ret a w):Code.ret.wpIn (RW ρ) 0 P (Exit.then K Q) a w:=G8 (Ht h)
end sq2
section sq3
variable {P : Program} {ρ : Option Nat} {n : Fw} {e : List (Nat × Value)} {C : World → Prop} {ops : List Oper} {NS : List Nat} {D : List Nat} {Q : Exit → Act → World → Prop} {d : Nat} {pend : List (Nat × Value)} {w : World} {o : Oper} {v : Value} {i : Nat} {a : Act}
theorem Dv (ok:OkV ops NS) (i:Nat) (ho:ops[i]? = some o) (hev:Ev P n e C o.op v) (hC:C w) (hd:o.dst=some d) (K:∀ a',Fr n a' ((d,v)::e)→DV P ρ ops NS Q (i::D) ((i,v)::pend) a' w) (hg:o.guard=Option.none:=by rfl) (hn:Nat.blt d n.sz=true:=by rfl) (hi:Q6 ops D i=true:=by kernel_rfl) (hq:NS.contains i=false:=by kernel_rfl):∀ a,Fr n a e→DV P ρ ops NS Q D pend a w:=fun _ F=>dv_ev ok i ho hev F hC hd K hg hn hi hq
theorem Dt (ok:OkV ops NS) (i:Nat) (ho:ops[i]? = some o) (hev:Ev P n e (fun _=>True) o.op v) (hd:o.dst=some d) (K:∀ a',Fr n a' ((d,v)::e)→DV P ρ ops NS Q (i::D) pend a' w) (hg:o.guard=Option.none:=by rfl) (hn:Nat.blt d n.sz=true:=by rfl) (hi:Q6 ops D i=true:=by kernel_rfl) (hq:NS.contains i=false:=by kernel_rfl):∀ a,Fr n a e→DV P ρ ops NS Q D pend a w:=fun _ F=>K0 ok i ho hev F hd K hg hn hi hq
theorem ye (ho:ops[i]? = some o) (hev:Ev P n e C o.op v) (F:Fr n a e) (hC:C w) (hg:o.guard=Option.none:=by exact rfl):Yl P ops (i,v) a w:=yl_ev ho hg hev F hC
end sq3
theorem on {vs:List Value} (h:vs.all Tq=true):∀ u∈vs,Tq u=true:=fun u hu=>List.all_eq_true.1 h u hu
theorem wj {P:Program} {τ:Option Nat} {σ ρ:Type} {m:σ→Option (Step σ ρ)} {s:σ} {r:ρ} {c:Code} {Q:Exit→Act→World→Prop} {a:Act} {w:World} (hr:C7 m s=some r) (I:σ→Act→World→Prop) (h0:I s a w) (hround:∀ s a w x,I s a w→m s=some x→(∀ r',x=.done r'→r'=r)→c.wpIn (RW τ) 0 P (Exit.then (fun a' w'=>∃ s',x=.next s'∧I s' a' w') Q) a w):(Code.loop c).wpIn (RW τ) 0 P Q a w:=wp_iter I hr h0 hround
theorem St.t {g:Gh} {l:List Hl} {fr:Hl} {w:World} (S:St g l fr w):St g [] fr w:=St.tail [] l S
theorem St.n1 {g:Gh} {c0:Hl} {fr:Hl} {w:World} (S:St g [c0] fr w):St g [c0] fr w:=S
theorem St.n2 {g:Gh} {c0 c1:Hl} {fr:Hl} {w:World} (S:St g [c0,c1] fr w):St g [c0,c1] fr w:=S
theorem St.n3 {g:Gh} {c0 c1 c2:Hl} {fr:Hl} {w:World} (S:St g [c0,c1,c2] fr w):St g [c0,c1,c2] fr w:=S
theorem St.n4 {g:Gh} {c0 c1 c2 c3:Hl} {fr:Hl} {w:World} (S:St g [c0,c1,c2,c3] fr w):St g [c0,c1,c2,c3] fr w:=S
theorem St.n5 {g:Gh} {c0 c1 c2 c3 c4:Hl} {fr:Hl} {w:World} (S:St g [c0,c1,c2,c3,c4] fr w):St g [c0,c1,c2,c3,c4] fr w:=S
theorem St.n6 {g:Gh} {c0 c1 c2 c3 c4 c5:Hl} {fr:Hl} {w:World} (S:St g [c0,c1,c2,c3,c4,c5] fr w):St g [c0,c1,c2,c3,c4,c5] fr w:=S
theorem St.n7 {g:Gh} {c0 c1 c2 c3 c4 c5 c6:Hl} {fr:Hl} {w:World} (S:St g [c0,c1,c2,c3,c4,c5,c6] fr w):St g [c0,c1,c2,c3,c4,c5,c6] fr w:=S
theorem St.n8 {g:Gh} {c0 c1 c2 c3 c4 c5 c6 c7:Hl} {fr:Hl} {w:World} (S:St g [c0,c1,c2,c3,c4,c5,c6,c7] fr w):St g [c0,c1,c2,c3,c4,c5,c6,c7] fr w:=S
theorem St.n9 {g:Gh} {c0 c1 c2 c3 c4 c5 c6 c7 c8:Hl} {fr:Hl} {w:World} (S:St g [c0,c1,c2,c3,c4,c5,c6,c7,c8] fr w):St g [c0,c1,c2,c3,c4,c5,c6,c7,c8] fr w:=S
theorem St.n10 {g:Gh} {c0 c1 c2 c3 c4 c5 c6 c7 c8 c9:Hl} {fr:Hl} {w:World} (S:St g [c0,c1,c2,c3,c4,c5,c6,c7,c8,c9] fr w):St g [c0,c1,c2,c3,c4,c5,c6,c7,c8,c9] fr w:=S
theorem St.n15 {g:Gh} {c0 c1 c2 c3 c4 c5 c6 c7 c8 c9 c10 c11 c12 c13 c14:Hl} {fr:Hl} {w:World} (S:St g [c0,c1,c2,c3,c4,c5,c6,c7,c8,c9,c10,c11,c12,c13,c14] fr w):St g [c0,c1,c2,c3,c4,c5,c6,c7,c8,c9,c10,c11,c12,c13,c14] fr w:=S
end Go.Dc
