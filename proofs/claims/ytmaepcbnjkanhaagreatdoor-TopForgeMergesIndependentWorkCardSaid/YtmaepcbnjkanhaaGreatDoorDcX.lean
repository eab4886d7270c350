import Derived.Test.YtmaepcbnjkanhaaGreatDoorDcV
set_option linter.unusedVariables false
namespace Go.Dc
open Go
variable {P : Program} {ρ : Option Nat} {n : Fw} {e : List (Nat × Value)} {C : World → Prop}
def Als (v:Value) (k m:Int) (nn:Nat) (v2:Value):Prop :=
  ∃ (a a':Option Addr) (len cap cap' kn mn:Nat),v=.slice a len cap∧k=kn∧m=mn∧kn+mn=len∧v2=.slice a' mn cap'∧(0 < mn→∃ b,a=some ⟨b,0,Option.none⟩∧a'=some ⟨b,kn * nn,Option.none⟩)
def als? {α:Type} (l:List α) (k:Int):Option Int:=if 0≤k∧k≤l.length then some ((l.length:Int) - k) else Option.none
def atA? {α:Type} (l:List α) (k m i:Int):Option α:=if 0≤k∧0≤i∧i < m then at? l (k+i) else Option.none
theorem atA?_at {α:Type} {l:List α} {k m i:Int} {z:α} (h:atA? l k m i=some z):at? l (k+i)=some z:=by
  unfold atA? at h;split at h
  · exact h
  · cases h
theorem atA?_lt {α:Type} {l:List α} {k m i:Int} {z:α} (h:atA? l k m i=some z):0≤k∧0≤i∧i < m:=by
  unfold atA? at h;split at h
  · assumption
  · cases h
theorem addr_add2 (b off p q:Nat):((⟨b,off,Option.none⟩:Addr).add p).add q=(⟨b,off,Option.none⟩:Addr).add (p+q):=by
  unfold Addr.add;by_cases hp:p=0
  · simp [hp]
  · by_cases hq:q=0
    · simp [hp,hq]
    · simp [hp,hq,Nat.add_assoc]
section
variable {α : Type} [Rep α]
theorem ev_lenAl {k m:Int} {nn:Nat} {v v2:Value} {T E:TypeId} {x:Operand} (hA:Als v k m nn v2) (hx:Bt e x=some v2) (hT:P.underlying T=some (.slice E)):Ev P n e C (.call { callee:=.builtin .len,args:=#[x],argTypes:=#[T] }) (.int .i64 m):=by
  obtain ⟨_,_,_,_,_,kn,mn,_,_,rfl,_,rfl,_⟩:=hA;exact O1 hx hT
theorem ev_cutA {g:Gh} {l:List α} {v:Value} {c:Hl} {T E:TypeId} {x:Operand} {lo:Option Operand} {k m:Int} (hr:OwnS g l v c) (hc:als? l k=some m) (hT:P.underlying T=some (.slice E)) (hz:(P.info? E).map (·.size)=some (Rep.n α))
    (hx:Bt e x=some v) (hlo:bnd e lo 0 k):∃ v',Als v k m (Rep.n α) v'∧Ev P n e C (.slice T x lo Option.none Option.none) v':=by
  unfold als? at hc;split at hc
  case isFalse=>cases hc
  rename_i hb
  cases hc;obtain ⟨h0,h1⟩:=hb;obtain ⟨p,rfl⟩:=Int.eq_ofNat_of_zero_le h0;have hpl:p≤l.length:=by omega
  rcases hr with ⟨rfl,rfl,rfl⟩ | ⟨b,cap,arr,t,rfl,rfl,h3,h4,h5⟩
  · have hp0:p=0:=by simp at hpl;omega
    subst hp0;refine ⟨.slice Option.none 0 0,⟨Option.none,Option.none,0,0,0,0,0,rfl,rfl,rfl,rfl,rfl,fun h=>absurd h (by omega)⟩,?_⟩
    intro o a w ho F _;have hb:=G9 (P:=P) (isS:=true) (len:=0) (cap:=0) (hi:=Option.none) (h:=0) F hlo rfl (Int.le_refl 0) (Int.le_refl 0) (by omega) w
    simp only [Option.map_none] at hb;simp [execOp,ho,F.eval hx,Instr.sliceAt,Instr.slice,run_underlying hT,hb,Dj hz]
  · refine ⟨.slice (some (if cap=p then ⟨b,0,Option.none⟩ else ⟨b,p * Rep.n α,Option.none⟩)) (l.length - p) (cap - p),⟨_,_,_,_,_,p,l.length - p,rfl,rfl,by omega,by omega,rfl,fun h=>⟨b,rfl,?_⟩⟩,?_⟩
    · rw [if_neg (by omega)]
    · intro o a w ho F _;have hb:=G9 (P:=P) (isS:=true) (len:=l.length) (cap:=cap) (hi:=Option.none) (h:=(l.length:Nat)) F hlo rfl (by omega) (by omega) (by omega) w
      simp only [Option.map_none] at hb;simp only [Int.toNat_natCast] at hb;by_cases hc:cap=p
      · subst hc;have hl:l.length=cap:=by omega
        simp only [hl] at hb;simp [execOp,ho,F.eval hx,Instr.sliceAt,Instr.slice,run_underlying hT,hb,Dj hz,hl]
      · have hcp:¬ cap - p=0:=by omega
        rcases Nat.eq_zero_or_pos (p * Rep.n α) with hm | hm
        · simp [execOp,ho,F.eval hx,Instr.sliceAt,Instr.slice,run_underlying hT,hb,Dj hz,hc,hcp,Addr.add,hm]
        · have:¬ p * Rep.n α=0:=by omega
          simp [execOp,ho,F.eval hx,Instr.sliceAt,Instr.slice,run_underlying hT,hb,Dj hz,hc,hcp,Addr.add,this]
theorem ev_idxA {l:List α} {v v2:Value} {k m i:Int} {z:α} {T E:TypeId} {x y:Operand} {ik:IntKind} (hA:Als v k m (Rep.n α) v2) (hi:atA? l k m i=some z) (hT:P.underlying T=some (.slice E)) (hz:(P.info? E).map (·.size)=some (Rep.n α))
    (hx:Bt e x=some v2) (hy:Bt e y=some (.int ik i)):Ev P n e C (.indexAddr T x y) (Eo v (k+i) (Rep.n α)):=by
  obtain ⟨hk0,h0,hlt⟩:=atA?_lt hi;obtain ⟨a,a',len,cap,cap',kn,mn,rfl,rfl,rfl,hl,rfl,hp⟩:=hA;obtain ⟨b,rfl,rfl⟩:=hp (by omega)
  obtain ⟨i,rfl⟩:=Int.eq_ofNat_of_zero_le h0;intro o a w ho F _;have h1:(i:Int) < (mn:Int):=hlt;have e1:((kn:Int)+(i:Int)).toNat=kn+i:=by omega
  have e2:(⟨b,kn * Rep.n α,Option.none⟩:Addr)=(⟨b,0,Option.none⟩:Addr).add (kn * Rep.n α):=by
    unfold Addr.add;split
    · rename_i h;rw [h]
    · simp
  have e3:(⟨b,kn * Rep.n α,Option.none⟩:Addr).add ((i:Int).toNat * Rep.n α)=(⟨b,0,Option.none⟩:Addr).add (((kn:Int)+(i:Int)).toNat * Rep.n α):=by
    rw [e1,e2,addr_add2,Int.toNat_natCast,Nat.add_mul]
  have h2:=O7 (P:=P) (ad:=⟨b,kn * Rep.n α,Option.none⟩) (len:=mn) (cap:=cap') (k:=ik) hT hz h0 h1 w;rw [e3] at h2;simp [execOp,ho,F.eval hx,F.eval hy,h2,Eo]
def clr? {α:Type} (l:List α) (k m:Int) (z:α):Option (List α):=if 0≤k∧0≤m∧k+m=l.length then some (l.take k.toNat++List.replicate m.toNat z) else Option.none
theorem zeros_cat {g:Gh} {z0:α} {cs:Array Value} (hs:cs.size=Rep.n α) (hz:Rep.rep g z0 cs.toList) (m:Nat):Cat g (List.replicate m z0) (Builtin.zeroCells cs m).toList:=by
  have hlen:(Builtin.zeroCells cs m).toList.length=m * Rep.n α:=by rw [Array.length_toList,G2,hs]
  refine ⟨by rw [hlen,List.length_replicate],?_⟩
  intro j hj;rw [List.length_replicate] at hj
  have he:((Builtin.zeroCells cs m).toList.drop (j * Rep.n α)).take (Rep.n α)=cs.toList:=by
    have hle:j * Rep.n α+Rep.n α≤m * Rep.n α:=by
      have:(j+1) * Rep.n α≤m * Rep.n α:=Nat.mul_le_mul_right _ hj;rw [Nat.add_mul,Nat.one_mul] at this;exact this
    refine List.ext_getElem (by simp only [List.length_take,List.length_drop,hlen,Array.length_toList,hs];omega) ?_
    intro i h1 h2;have hi:i < Rep.n α:=by rw [Array.length_toList,hs] at h2;exact h2
    rw [List.getElem_take,List.getElem_drop];simp only [Builtin.zeroCells,Array.getElem_toList,Array.getElem_map,Array.getElem_range,hs];have:(j * Rep.n α+i) % Rep.n α=i:=by rw [Nat.mul_comm,Nat.mul_add_mod];exact Nat.mod_eq_of_lt hi
    rw [this,getElem!_pos cs i (by rw [hs];exact hi)]
  rw [he,List.getElem_replicate];exact hz
theorem wl_clearA {ops:Array Oper} {rest:List Oper} {o:Oper} {Q:Exit→Act→World→Prop} {a:Act} {w:World} {g:Gh} {cks:List Hl} {fr:Hl} {T E:TypeId} {x:Operand} {j bytes:Nat} {k m:Int} {z v v2:Value} {c:Hl} {l l':List α} {z0:α}
    (hg:Region.wanted o (yielded ops a.tmps)=true) (ho:o.op=.call { callee:=.builtin .clear,args:=#[x],argTypes:=#[T] }) (hT:P.underlying T=some (.slice E)) (hE:ElemT P E (Rep.n α) bytes z) (hz0:∀ g,Rep.rep g z0 z.cells.toList)
    (F:Fr n a e) (S:St g cks fr w) (hx:Bt e x=some v2) (hk:cks[j]? = some c) (hr:OwnS g l v c) (hA:Als v k m (Rep.n α) v2) (hm:clr? l k m z0=some l') (hd:o.dst=Option.none)
    (K:∀ c' w',OwnS g l' v c'→St g (cks.set j c') fr w'→wpListIn (RW ρ) 0 P ops Q rest a w'):wpListIn (RW ρ) 0 P ops Q (o::rest) a w:=by
  unfold clr? at hm;split at hm
  case isFalse=>cases hm
  rename_i hb
  cases hm;obtain ⟨av,av',len,cap,cap',kn,mn,rfl,rfl,rfl,hl,rfl,hp⟩:=hA;obtain ⟨_,_,hkm⟩:=hb;have hkl:kn+mn=l.length:=by omega
  have tn:∀ q:Nat,(q:Int).toNat=q:=fun q=>Int.toNat_natCast q;rw [tn,tn] at K
  have hset:cks.set j c=cks:=by
    apply List.ext_getElem? ;intro i;rw [List.getElem?_set];split
    · rename_i h;subst h
      rw [hk];split
      · rfl
      · rename_i h';rw [List.getElem?_eq_none (by omega)] at hk;cases hk
    · rfl
  rcases Nat.eq_zero_or_pos mn with h0 | h0
  · subst h0
    have hrun:(execOp a.eval o).run P w=.ok (.value (.tuple #[])) w:=by
      cases av' <;> simp [execOp,ho,F.eval hx,resolve,invoke,builtin,Builtin.clear_,run_underlying hT]
    refine Lu hg hrun (by intro d;simp) ?_
    simp only [Oper.uponIn,hd];refine K c w ?_ (by rw [hset];exact S)
    rw [List.take_of_length_le (by omega)]
    simpa using hr
  · obtain ⟨b,rfl,rfl⟩:=hp h0;rcases hr with ⟨hv,_,_⟩ | ⟨b',cap2,arr,t,hv,rfl,h3,h4,h5⟩
    · cases hv
    · injection hv with hv1 hv2 hv3;cases hv1;subst hv3
      have ha:CatA g l arr:=by
        have hO:OwnS g l (rs b 0 l.length cap) [(b,.cells arr t (0,0))]:=.inr ⟨b,cap,arr,t,rfl,rfl,h3,h4,h5⟩;obtain ⟨b'',cap'',arr'',t'',e1,e2,_,_,hca⟩:=hO.open (by intro h;rw [h] at hkl;simp at hkl;omega)
        injection e2 with e2 _;injection e2 with _ e2;injection e2 with e2 _ _;subst e2;exact hca
      have hklt:j < cks.length:=by
        rcases Nat.lt_or_ge j cks.length with h' | h'
        · exact h'
        · simp [List.getElem?_eq_none h'] at hk
      have hbh:=S.heap j hk
      obtain ⟨i,hi⟩:∃ i,P.info? E=some i:=by
        cases h:P.info? E with
        | none=>have:=hE.size;rw [h] at this;cases this
        | some i=>exact ⟨i,rfl⟩
      have hz:i.zero=some z:=by have:=hE.zero;rw [hi] at this;simpa using this
      have hcat:=zeros_cat (α:=α) (g:=g) hE.zsize (hz0 g) mn;have hzl:(Builtin.zeroCells z.cells mn).toList.length=mn * Rep.n α:=by rw [Array.length_toList,G2,hE.zsize]
      have hfit:(kn+mn) * Rep.n α≤arr.size:=by rw [h4];exact Nat.mul_le_mul_right _ (by omega)
      obtain ⟨w',e1,e2,e3,e4,e5,e6,e7,e8⟩:=Ks (P:=P) (w:=w) (b:=b) (c:=arr) (t:=t) (vs:=(Builtin.zeroCells z.cells mn).toList) (kn * Rep.n α) 0 hbh (by rw [Nat.add_zero,hzl,← Nat.add_mul];exact hfit) hcat.one
      have hrun:(execOp a.eval o).run P w=.ok (.value (.tuple #[])) w':=by
        obtain ⟨m',rfl⟩:∃ m',mn=m'+1:=⟨mn - 1,by omega⟩
        simp [execOp,ho,F.eval hx,resolve,invoke,builtin,Builtin.clear_,run_underlying hT,zeroValue,typeInfo,hi,hz,e1]
      refine Lu hg hrun (by intro d;simp) ?_
      simp only [Oper.uponIn,hd];have hsz:(spl arr (kn * Rep.n α) (Builtin.zeroCells z.cells mn).toList).size=arr.size:=Mt (by rw [hzl,← Nat.add_mul];exact hfit)
      have hsp:=ha.splice (r:=List.replicate mn z0) (p:=kn) hcat (by omega) (by rw [List.length_replicate];exact hfit)
      rw [List.length_replicate,List.drop_of_length_le (by omega),List.append_nil] at hsp
      refine K [(b,.cells (spl arr (kn * Rep.n α) (Builtin.zeroCells z.cells mn).toList) t (0,0))] w' ?_ ?_
      · have hL:(l.take kn++List.replicate mn z0).length=len:=by simp;omega
        have:=hsp.own (b:=b) (cap:=cap) (t:=t) (by rw [hL];omega) (by rw [hsz,h4])
        rw [hL] at this;exact this
      · refine St.back j hklt ?_;exact (S.front j hk).write (w':=w') (by rw [e2,Nat.add_zero]) e3 e5 e6 e7 (Nat.le_of_eq e8.symm)
end
end Go.Dc
