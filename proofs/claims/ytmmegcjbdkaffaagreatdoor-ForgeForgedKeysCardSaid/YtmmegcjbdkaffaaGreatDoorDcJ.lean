import Derived.Test.YtmmegcjbdkaffaaGreatDoorDcH
namespace Go.Dc
open Go
variable {P : Program} {ρ : Option Nat} {n : Fw} {e : List (Nat × Value)} {C : World → Prop}
def andI (k:IntKind) (x y:Int):Int:=k.wrap (BitVec.ofInt k.bits x &&& BitVec.ofInt k.bits y).toNat
theorem bo_and (T:TypeId) (k:IntKind) (p q:Int) (w:World):(binOp .and T (.int k p) (.int k q)).run P w=.ok (.int k (andI k p q)) w:=by simp [binOp,Op.intBits,andI]
def shr? (k:IntKind) (x y:Int):Option Int:=if y < 0 then Option.none else some (x.fdiv (2 ^ (min y.toNat k.bits)))
theorem ev_shr {T U:TypeId} {x y:Operand} {k k':IntKind} {p q r:Int} (h:shr? k p q=some r) (hx:Bt e x=some (.int k p)) (hy:Bt e y=some (.int k' q)):Ev P n e C (.binOp .shr T x y U) (.int k r):=by
  unfold shr? at h;split at h
  · cases h
  · rename_i hq
    cases h;intro o a w ho F _;simp [execOp,ho,F.eval hx,F.eval hy,eqGuard,binOp,Op.shift,hq]
theorem ev_conv {T T':TypeId} {x:Operand} {k k':IntKind} {p r:Int} (h:ckK k' p=some r) (hT:P.underlying T=some (.int k)) (hT':P.underlying T'=some (.int k')) (hx:Bt e x=some (.int k p)):Ev P n e C (.convert T T' x) (.int k' r):=by
  obtain ⟨h1,rfl⟩:=ckK_some h;intro o a w ho F _;simp [execOp,ho,F.eval hx,convert,run_underlying hT,run_underlying hT',Conv.intToInt,h1]
theorem wl_s2b {ops:Array Oper} {rest:List Oper} {o:Oper} {Q:Exit→Act→World→Prop} {a:Act} {w:World} {g:Gh} {cks:List Hl} {fr:Hl} {T T' E:TypeId} {x:Operand} {d:Nat} {s:ByteArray}
    (hg:Region.wanted o (yielded ops a.tmps)=true) (ho:o.op=.convert T T' x) (hT:P.underlying T=some .string) (hT':P.underlying T'=some (.slice E)) (hE:P.underlying E=some (.int .u8)) (hx:Bt e x=some (.string s))
    (F:Fr n a e) (S:St g cks fr w) (hd:o.dst=some d) (hn:Nat.blt d n.sz=true)
    (K:∀ g' v a' w',Le g g'→RepSl g' s.data.toList v→Fr n a' ((d,v)::e)→St g' cks fr w'→wpListIn (RW ρ) 0 P ops Q rest a' w'):wpListIn (RW ρ) 0 P ops Q (o::rest) a w:=by
  let cap:=grownCap w s.size 0 E;have hcap:s.size≤cap:=grownCap_ge w s.size 0 E;let arr:Array Value:=s.data.map (fun b=>Value.int .u8 b.toNat)++Array.replicate (cap - s.size) (.int .u8 0)
  have hsz:arr.size=cap:=by
    have:s.data.size=s.size:=rfl;simp [arr,this];omega
  let ob:Obj:=.cells arr E (arr.size,arr.size+1);let w1:World:=w.drew.alloc (.cells arr E);let w2:World:=w1.freeze ⟨w.heap.size,arr.size,Option.none⟩ 1;have hs:w1.heap[w.heap.size]? = some (.cells arr E (0,0)):=by show (w.heap.push _)[w.heap.size]? = _;simp
  have hm:(markStringish ⟨w.heap.size,0,Option.none⟩).run P w1=.ok () w2:=by
    simp [markStringish,shape,freeze,Sem.run,World.shape?,hs,w2]
  have hrun:(execOp a.eval o).run P w=.ok (.value (.slice (some ⟨w.heap.size,0,Option.none⟩) s.size cap)) w2:=by
    simp [execOp,ho,F.eval hx,convert,run_underlying hT,run_underlying hT',run_underlying hE,Conv.stringToBytes,choose,Sem.run,Question.forced,newRow,newObj];have hm':=hm;simp only [w1,arr,cap,grownCap] at hm';rw [hm'];rfl
  have h2:w2.heap=w.heap.push ob:=by
    simp only [w2,w1,World.freeze,World.drew,World.alloc];rw [if_neg (by decide)]
    apply Array.ext
    · simp
    · intro i h1 h3;simp only [Array.getElem_modify,Array.getElem_push];simp only [Array.size_push] at h3;by_cases hi:i < w.heap.size
      · rw [if_neg (by omega)]
        simp [hi]
      · have:w.heap.size=i:=by omega
        subst this;simp [ob]
  refine Nd hg hrun (by intro d;simp) ?_
  simp only [Oper.uponIn,hd];have S2:St g ([(w.heap.size,ob)]::cks) fr w2:=St0.push S h2 rfl rfl rfl;refine K (g.add [(w.heap.size,ob)]) _ _ w2 (Le.add _ _) ?_ (F.put hn) (S2.freeze 0 rfl);have hsn:(g.add [(w.heap.size,ob)]).snap w.heap.size=some ob:=Gh.add_snap (p:=(w.heap.size,ob)) (c:=[(w.heap.size,ob)]) (o:=fl cks fr) (w:=w2) S2 (by simp)
  have hlen:s.data.toList.length=s.size:=by rw [Array.length_toList];rfl
  refine .inr ⟨w.heap.size,0,cap,arr,E,_,by rw [hlen],by rw [hlen];exact hcap,hsn,?_,?_⟩
  · show 0+s.data.toList.length * 1≤arr.size;rw [hlen,hsz];omega
  · intro i hi;show (arr.toList.drop (0+i * 1)).take 1=[.int .u8 (s.data.toList[i]).toNat];have hi':i < s.data.size:=by simpa using hi
    rw [Nat.zero_add,Nat.mul_one]
    have:arr.toList.drop i=arr[i]'(by rw [hsz];rw [hlen] at hi;omega)::arr.toList.drop (i+1):=by
      rw [List.drop_eq_getElem_cons (by simp only [Array.length_toList];rw [hsz];rw [hlen] at hi;omega)]
      simp
    rw [this];simp only [List.take_succ_cons,List.take_zero,arr];rw [Array.getElem_append_left (by simpa using hi')]
    simp
theorem ev_indexAI {T E len:Nat} {x y:Operand} {xs:List Int} {cs:List Value} {k k':IntKind} {i r:Int} (h:at? xs i=some r) (hT:P.underlying T=some (.array len E)) (hE:P.underlying E=some (.int k')) (hz:(P.info? E).map (·.size)=some 1) (hlen:xs.length=len)
    (hcs:xs.map (Value.int k')=cs) (hx:Bt e x=some (.agg cs.toArray)) (hy:Bt e y=some (.int k i)):Ev P n e C (.index T x y) (.int k' r):=by
  obtain ⟨h0,hlt,hr⟩:=G5 h;intro o a w ho F _;have h1:i < (len:Int):=by omega
  subst hcs;simp [execOp,ho,F.eval hx,F.eval hy,Instr.index,asIntOf,run_underlying hT,h0,h1,part,Mc hE,aggD,Dn hz,hlt,hr]
def AllSl {α:Type} [Rep α] (g:Gh):List (List α)→List Value→Prop
  | [],[]=>True
  | l::ls,v::vs=>RepSl g l v∧AllSl g ls vs
  | _,_=>False
theorem AllSl.at {α:Type} [Rep α] {g:Gh}:∀ {ls:List (List α)} {vs:List Value},AllSl g ls vs→∀ (i:Nat) (h:i < ls.length),∃ v,vs[i]? = some v∧RepSl g ls[i] v
  | _::_,v::_,h,0,_=>⟨v,rfl,h.1⟩
  | _::_,_::_,h,i+1,hi=>by
    obtain ⟨v,h1,h2⟩:=AllSl.at h.2 i (by simpa using hi)
    exact ⟨v,by simpa using h1,by simpa using h2⟩
  | [],[],_,_,hi=>absurd hi (by simp)
  | [],_::_,h,_,_=>h.elim
  | _::_,[],h,_,_=>h.elim
theorem ev_indexASl {α:Type} [Rep α] {g:Gh} {T E len E':Nat} {x y:Operand} {ls:List (List α)} {r:List α} {cs:List Value} {k:IntKind} {i:Int} (h:at? ls i=some r) (hT:P.underlying T=some (.array len E)) (hE:P.underlying E=some (.slice E')) (hz:(P.info? E).map (·.size)=some 1) (hlen:ls.length=len)
    (hcs:AllSl g ls cs) (hx:Bt e x=some (.agg cs.toArray)) (hy:Bt e y=some (.int k i)):∃ v,RepSl g r v∧Ev P n e C (.index T x y) v:=by
  obtain ⟨h0,hlt,hr⟩:=G5 h;obtain ⟨v,h2,h3⟩:=hcs.at i.toNat hlt;rw [hr] at h3;refine ⟨v,h3,?_⟩;intro o a w ho F _;have h1:i < (len:Int):=by omega
  simp [execOp,ho,F.eval hx,F.eval hy,Instr.index,asIntOf,run_underlying hT,h0,h1,part,Mc hE,aggD,Dn hz,h2]
theorem ev_idxBox {T E len z b off:Nat} {x y:Operand} {k:IntKind} {i:Int} {off':Nat} (hT:P.underlying T=some (.array len E)) (hz:(P.info? E).map (·.size)=some z) (hi:0≤i∧i < len) (ho':off'=off+i.toNat * z)
    (hx:Bt e x=some (.pointer (some ⟨b,off,Option.none⟩))) (hy:Bt e y=some (.int k i)):Ev P n e C (.indexAddr T x y) (.pointer (some ⟨b,off',Option.none⟩)):=by
  intro o a w ho F _;simp [execOp,ho,F.eval hx,F.eval hy,Instr.indexAt,asIntOf,run_underlying hT,hi.1,hi.2,Dn hz,Instr.sureAddr,L3,ho']
theorem Hv {x:Operand} {p:Value} (h:∃ a,p=.pointer (some a)) (hx:Bt e x=some p):Ev P n e C (.nilCheck x) p:=by
  obtain ⟨a0,rfl⟩:=h;exact C7 hx
end Go.Dc
