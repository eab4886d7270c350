import Derived.Test.YtmmegcjbdkaffaaGreatDoorDcD
namespace Go.Dc
open Go
variable {P : Program} {ρ : Option Nat} {n : Fw} {e : List (Nat × Value)} {C : World → Prop}
theorem fill_one (v:Value):∀ (cs:List Value) (arr:Array Value) (off j:Nat),off+j+cs.length≤arr.size →
    (cs.zipIdx j).foldl (fun (acc:Array Value) (p:Value×Nat)=>acc.setIfInBounds (off+p.2) p.1) arr=spl arr (off+j) cs
  | [],arr,off,j,h=>by simp [spl]
  | c::cs,arr,off,j,h=>by
    simp only [List.length_cons] at h;simp only [List.zipIdx_cons,List.foldl_cons];rw [fill_one v cs _ off (j+1) (by simp;omega)]
    simp only [spl];congr 1;rw [Array.toList_setIfInBounds];have hlt:off+j < arr.toList.length:=by simp;omega
    rw [show off+(j+1)=off+j+1 from by omega,List.take_set,List.take_succ_eq_append_getElem hlt,List.set_append_right _ _ (by rw [List.length_take];omega),List.drop_set_of_lt (by omega)]
    have hs:off+j - (List.take (off+j) arr.toList).length=0:=by rw [List.length_take];omega
    rw [hs];simp only [List.set_cons_zero,List.length_cons,List.append_assoc,List.cons_append,List.nil_append];rw [show off+j+1+cs.length=off+j+(cs.length+1) from by omega]
def M9:Nat→List Value→List (Nat×Value)
  | _,[]=>[]
  | j,v::r=>(j,v)::M9 (j+1) r
def Hr (vs:List Value):List Value:=vs.flatMap fun v=>v.cells.toList
theorem fill_all (size:Nat):∀ (vs:List Value) (arr:Array Value) (j:Nat),(∀ v∈vs,v.cells.size=size)→(j+vs.length) * size≤arr.size →
    Instr.fill (fun i=>some (i * size,size)) arr (M9 j vs)=some (spl arr (j * size) (Hr vs))
  | [],arr,j,_,h=>by simp [M9,Instr.fill,Hr,spl]
  | v::vs,arr,j,hv,h=>by
    have h1:=hv v (by simp)
    simp only [List.length_cons] at h
    have hle:j * size+size≤arr.size:=by
      have:(j+1) * size≤(j+(vs.length+1)) * size:=Nat.mul_le_mul_right _ (by omega)
      rw [Nat.add_mul,Nat.one_mul] at this;omega
    simp only [M9,Instr.fill,h1];rw [if_neg (by simp;omega)]
    have hz:(v.cells.zipIdx.foldl (fun (cs:Array Value) (p:Value×Nat)=>cs.setIfInBounds (j * size+p.2) p.1) arr)=spl arr (j * size) v.cells.toList:=by
      have:=fill_one v v.cells.toList arr (j * size) 0 (by simp [h1];omega)
      simp only [Nat.add_zero] at this;rw [← this,← Array.foldl_toList];simp
    have hz':(v.cells.zipIdx.foldl (fun (cs:Array Value) (x:Value×Nat)=>match x with | (c,k)=>cs.setIfInBounds (j * size+k) c) arr)=spl arr (j * size) v.cells.toList:=hz
    rw [hz'];have hsp:(spl arr (j * size) v.cells.toList).size=arr.size:=Ow (by simp [h1];omega)
    rw [fill_all size vs _ (j+1) (fun u hu=>hv u (by simp [hu])) (by rw [hsp,show j+1+vs.length=j+(vs.length+1) from by omega];exact h)]
    congr 1;have hj:(j+1) * size=j * size+size:=by rw [Nat.add_mul,Nat.one_mul]
    have hlenv:v.cells.toList.length=size:=by simpa using h1
    simp only [spl,Hr,List.flatMap_cons,hj];congr 1;rw [List.take_append_of_le_length (by simp;omega),List.take_of_length_le (by simp;omega)]
    rw [List.drop_append,List.drop_of_length_le (by simp;omega),List.nil_append,List.drop_drop]
    simp only [List.append_assoc,List.length_append,List.length_take,hlenv,Array.length_toList];congr 3;rw [show min (j * size) arr.size=j * size from by omega]
    congr 1;omega
theorem run_buildSlice {T E:TypeId} {m b:Nat} {z:Value} {vs:List Value} (hT:P.underlying T=some (.slice E)) (hE:ElemT P E m b z) (hv:∀ v∈vs,v.cells.size=m) (hl:vs.length * m≤16777216) (w:World) :
    (Instr.buildSlice T vs.length (M9 0 vs).toArray).run P w=.ok (.slice (some ⟨w.heap.size,0,Option.none⟩) vs.length vs.length) { w with heap:=w.heap.push (.cells (Hr vs).toArray E) }:=by
  have hle:¬ (vs.length * m > 16777216):=by omega
  have hlen:(Hr vs).length=vs.length * m:=by
    unfold Hr;clear hl hle
    induction vs with
    | nil=>simp
    | cons v r ih =>
      simp only [List.flatMap_cons,List.length_append,List.length_cons,Array.length_toList];rw [ih (fun u hu=>hv u (by simp [hu])),hv v (by simp),Nat.add_mul,Nat.one_mul,Nat.add_comm]
  have hfill:∀ arr:Array Value,arr.size=vs.length * m→Instr.fill (fun i=>some (i * m,m)) arr (M9 0 vs)=some (Hr vs).toArray:=by
    intro arr ha;rw [fill_all m vs arr 0 hv (by simp;omega)]
    simp only [spl,Nat.zero_mul,List.take_zero,List.nil_append,Nat.zero_add,hlen];rw [List.drop_of_length_le (by simp;omega),List.append_nil]
  by_cases h0:vs.length * m=0
  · simp [Instr.buildSlice,run_underlying hT,Dn hE.size,h0,hfill,newRow,newObj,Sem.run]
  · simp [Instr.buildSlice,run_underlying hT,Dn hE.size,hle,h0,hfill,run_zero' hE.zero,newRow,newObj,Sem.run]
theorem wl_buildSlice {ops:Array Oper} {rest:List Oper} {o:Oper} {Q:Exit→Act→World→Prop} {a:Act} {w:World} {g:Gh} {cks:List Hl} {fr:Hl} {T E:TypeId} {parts:List (Nat×Operand)} {vs cs:List Value} {d m b L:Nat} {z:Value}
    (hg:Region.wanted o (yielded ops a.tmps)=true) (ho:o.op=.buildSlice T L parts.toArray) (hL:vs.length=L) (hp:parts.map (fun p=>(p.1,Bt e p.2))=(M9 0 vs).map (fun p=>(p.1,some p.2))) (hT:P.underlying T=some (.slice E)) (hE:ElemT P E m b z)
    (hv:∀ v∈vs,v.cells.size=m) (hl:vs.length * m≤16777216) (hcs:Hr vs=cs) (F:Fr n a e) (S:St g cks fr w) (hd:o.dst=some d) (hn:Nat.blt d n.sz=true)
    (K:∀ b' a' w',Fr n a' ((d,.slice (some ⟨b',0,Option.none⟩) vs.length vs.length)::e)→St g ([(b',.cells cs.toArray E (0,0))]::cks) fr w'→wpListIn (RW ρ) 0 P ops Q rest a' w'):wpListIn (RW ρ) 0 P ops Q (o::rest) a w:=by
  have hm:parts.map (fun (i,x)=>(i,a.eval x))=M9 0 vs:=by
    generalize M9 0 vs=us at hp;clear ho
    induction parts generalizing us with
    | nil=>cases us with
      | nil=>rfl
      | cons u r=>simp at hp
    | cons p r ih=>cases us with
      | nil=>simp at hp
      | cons u s =>
        simp only [List.map_cons,List.cons.injEq,Prod.mk.injEq] at hp;simp only [List.map_cons,List.cons.injEq];exact ⟨Prod.ext hp.1.1 (F.eval hp.1.2),ih s hp.2⟩
  have hrun:=run_buildSlice (P:=P) hT hE hv hl w
  have:(execOp a.eval o).run P w=.ok (.value (.slice (some ⟨w.heap.size,0,Option.none⟩) vs.length vs.length)) { w with heap:=w.heap.push (.cells (Hr vs).toArray E) }:=by
    subst hL;simp [execOp,ho,hm,hrun]
  refine Nd hg this (by intro d;simp) ?_
  simp only [Oper.uponIn,hd];subst hcs;exact K w.heap.size _ _ (F.put hn) (S.push rfl rfl rfl rfl)
theorem OwnS.lit {α:Type} [Rep α] {g:Gh} {l:List α} {cs:List Value} {b L:Nat} {t:TypeId} (h:Cat g l cs) (hL:L=l.length):OwnS g l (.slice (some ⟨b,0,Option.none⟩) L L) [(b,.cells cs.toArray t (0,0))]:=by
  subst hL;exact OwnS.of_cat h (Nat.le_refl _) (by simpa using h.1) (by simp)
def mk? {α:Type} (bytes:Nat) (m:Int) (x:α):Option (List α):=if 0≤m∧m * bytes≤140737488355328 then some (List.replicate m.toNat x) else Option.none
theorem wl_make {α:Type} [Rep α] {ops:Array Oper} {rest:List Oper} {o:Oper} {Q:Exit→Act→World→Prop} {a:Act} {w:World} {g:Gh} {cks:List Hl} {fr:Hl} {T E:TypeId} {x:Operand} {d b:Nat} {m:Int} {z:Value} {x0:α} {l:List α}
    (hg:Region.wanted o (yielded ops a.tmps)=true) (ho:o.op=.makeSlice T x x) (hT:P.underlying T=some (.slice E)) (hE:ElemT P E (Rep.n α) b z) (hz:∀ g,Rep.rep g x0 z.cells.toList) (hx:Bt e x=some (.int .i64 m)) (hl:mk? b m x0=some l) (hb:0 < b)
    (F:Fr n a e) (S:St g cks fr w) (hd:o.dst=some d) (hn:Nat.blt d n.sz=true)
    (K:∀ v c a' w',OwnS g l v c→Fr n a' ((d,v)::e)→St g (c::cks) fr w'→wpListIn (RW ρ) 0 P ops Q rest a' w'):wpListIn (RW ρ) 0 P ops Q (o::rest) a w:=by
  unfold mk? at hl;split at hl
  case isFalse=>cases hl
  rename_i hm
  cases hl;obtain ⟨h0,h1⟩:=hm;obtain ⟨k,rfl⟩:=Int.eq_ofNat_of_zero_le h0
  have hkb:k * b≤140737488355328:=by
    have h2:((k * b:Nat):Int)≤140737488355328:=by rw [Int.natCast_mul];exact h1
    omega
  have hk1:k≤140737488355328:=Nat.le_trans (Nat.le_mul_of_pos_right _ hb) hkb;have hw:IntKind.i64.wrap (k:Int)=k:=IntWalk.i64_in _ (by omega)
  obtain ⟨i,hi⟩:∃ i,P.info? E=some i:=by
    cases h:P.info? E with
    | none=>have:=hE.size;rw [h] at this;cases this
    | some i=>exact ⟨i,rfl⟩
  have hsz:i.size=Rep.n α:=by have:=hE.size;rw [hi] at this;simpa using this
  have hby:i.bytes=b:=by have:=hE.bytes;rw [hi] at this;simpa using this
  have hzz:i.zero=some z:=by have:=hE.zero;rw [hi] at this;simpa using this
  have hkb':¬ ((281474976710656:Int) < b * (k:Int)):=by
    have:(b:Int) * (k:Int)=((k * b:Nat):Int):=by rw [Int.natCast_mul,Int.mul_comm]
    rw [this];omega
  have hneg:¬ ((k:Int) < 0):=by omega
  let arr:Array Value:=(Array.range (k * Rep.n α)).map fun j=>z.cells[j % z.cells.size]!
  have hrun:(execOp a.eval o).run P w=.ok (.value (.slice (some ⟨w.heap.size,0,Option.none⟩) k k)) { w with heap:=w.heap.push (.cells arr E) }:=by
    by_cases hn0:k * Rep.n α=0
    · have:arr=#[]:=by simp [arr,hn0]
      simp [execOp,ho,F.eval hx,Instr.makeSlice,asInt,asIntOf,run_underlying hT,typeInfo,hi,hby,hw,hkb',hneg,sizeOf,hsz,hn0,newRow,newObj,Sem.run,this];rw [show (Array.map (fun _=>default) (Array.range 0):Array Value)=#[] from by apply Array.eq_empty_of_size_eq_zero;simp]
    · simp [execOp,ho,F.eval hx,Instr.makeSlice,asInt,asIntOf,run_underlying hT,typeInfo,hi,hby,hw,hkb',hneg,sizeOf,hsz,hn0,newRow,newObj,Sem.run,zeroValue,hzz];rfl
  refine Nd hg hrun (by intro d;simp) ?_
  simp only [Oper.uponIn,hd];refine K _ [(w.heap.size,.cells arr E (0,0))] _ _ ?_ (F.put hn) (S.push rfl rfl rfl rfl);have hzn:z.cells.size=Rep.n α:=hE.zsize;refine .inr ⟨w.heap.size,k,arr,E,by simp,rfl,by simp,by simp [arr],?_⟩
  intro j hj;simp only [Int.toNat_natCast,List.length_replicate] at hj;simp only [List.getElem_replicate]
  have:(arr.toList.drop (j * Rep.n α)).take (Rep.n α)=z.cells.toList:=by
    have hle:j * Rep.n α+Rep.n α≤k * Rep.n α:=by
      have:(j+1) * Rep.n α≤k * Rep.n α:=Nat.mul_le_mul_right _ hj
      rwa [Nat.add_mul,Nat.one_mul] at this
    apply List.ext_getElem
    · simp [arr,hzn];omega
    · intro q hq1 hq2;simp only [List.getElem_take,List.getElem_drop,arr,Array.getElem_toList,Array.getElem_map,Array.getElem_range];have hq3:q < Rep.n α:=by simp at hq2;omega
      have:(j * Rep.n α+q) % z.cells.size=q:=by
        rw [hzn,Nat.mul_comm,Nat.mul_add_mod];exact Nat.mod_eq_of_lt hq3
      rw [this,getElem!_pos z.cells q (by omega)]
  rw [this];exact hz g
def cut? {α:Type} (l:List α) (lo hi:Int):Option (List α):=if 0≤lo∧lo≤hi∧hi≤l.length then some ((l.take hi.toNat).drop lo.toNat) else Option.none
def scut? (s:ByteArray) (lo hi:Int):Option ByteArray:=if 0≤lo∧lo≤hi∧hi≤s.size then some (s.extract lo.toNat hi.toNat) else Option.none
def bnd (e:List (Nat×Value)) (x:Option Operand) (d i:Int):Prop :=
  match x with
  | Option.none=>i=d
  | some y=>∃ k,Bt e y=some (.int k i)
theorem Kj {isS:Bool} {a:Act} {len cap:Nat} {lo hi:Option Operand} {l h:Int} (F:Fr n a e) (hl:bnd e lo 0 l) (hh:bnd e hi len h) (h0:0≤l) (h1:l≤h) (h2:h≤cap) (w:World) :
    (Instr.sliceBounds isS len cap (lo.map a.eval) (hi.map a.eval) Option.none).run P w=.ok (l.toNat,h.toNat,cap) w:=by
  have hl2:l≤((h.toNat:Nat):Int):=by omega
  have hh2:0≤h:=by omega
  cases hi with
  | none =>
    simp only [bnd] at hh;cases lo with
    | none =>
      simp only [bnd] at hl;subst hl;simp [Instr.sliceBounds,hh]
    | some y =>
      obtain ⟨k,hy⟩:=hl;have hl3:l≤(len:Int):=by omega
      simp [Instr.sliceBounds,Instr.sliceBound,F.eval hy,asIntOf,h0,hl3,hh]
  | some yh =>
    obtain ⟨kh,hyh⟩:=hh;cases lo with
    | none =>
      simp only [bnd] at hl;subst hl;simp [Instr.sliceBounds,Instr.sliceBound,F.eval hyh,asIntOf,hh2,h2]
    | some y =>
      obtain ⟨k,hy⟩:=hl;simp [Instr.sliceBounds,Instr.sliceBound,F.eval hyh,F.eval hy,asIntOf,hh2,h2,h0];omega
theorem ev_cut {α:Type} [Rep α] {g:Gh} {l:List α} {v:Value} {T E:TypeId} {x:Operand} {lo hi:Option Operand} {p q:Int} {l':List α} (hr:RepSl g l v) (hc:cut? l p q=some l') (hT:P.underlying T=some (.slice E)) (hz:(P.info? E).map (·.size)=some (Rep.n α))
    (hx:Bt e x=some v) (hlo:bnd e lo 0 p) (hhi:bnd e hi l.length q):∃ v',RepSl g l' v'∧Ev P n e C (.slice T x lo hi Option.none) v':=by
  unfold cut? at hc;split at hc
  case isFalse=>cases hc
  rename_i hb
  cases hc;obtain ⟨h0,h1,h2⟩:=hb;rcases hr with ⟨rfl,a0,cap,rfl⟩ | ⟨b,off,cap,c,t,fz,rfl,h3,h4,h5,h6⟩
  · have hq:q=0:=by simp at h2;omega
    have hp:p=0:=by omega
    subst hq;subst hp;refine ⟨.slice (if cap=0 then a0 else a0.map (·.add (0 * Rep.n α))) 0 cap,.inl ⟨by simp,_,_,rfl⟩,?_⟩
    intro o a w ho F _;have hb:=Kj (P:=P) (isS:=true) (len:=0) (cap:=cap) F hlo (by simpa using hhi) (Int.le_refl 0) (Int.le_refl 0) (by omega) w
    simp [execOp,ho,F.eval hx,Instr.sliceAt,Instr.slice,run_underlying hT,hb,Dn hz]
  · obtain ⟨p,rfl⟩:=Int.eq_ofNat_of_zero_le h0;obtain ⟨q,rfl⟩:=Int.eq_ofNat_of_zero_le (show 0≤q from by omega)
    have hpq:p≤q:=by omega
    have hql:q≤l.length:=by omega
    have hlen:((l.take q).drop p).length=q - p:=by simp;omega
    refine ⟨.slice (some (if cap=p then ⟨b,off,Option.none⟩ else ⟨b,off+p * Rep.n α,Option.none⟩)) (q - p) (cap - p),?_,?_⟩
    · by_cases hcp:cap=p
      · rw [if_pos hcp];have hqp:q - p=0:=by omega
        have hnil:(l.take q).drop p=[]:=by apply List.eq_nil_of_length_eq_zero;omega
        simp only [Int.toNat_natCast,hnil,hqp];exact .inr ⟨b,off,cap - p,c,t,fz,rfl,by simp,h4,by simp;omega,fun i hi=>by simp at hi⟩
      · rw [if_neg hcp];refine .inr ⟨b,off+p * Rep.n α,cap - p,c,t,fz,by simp [hlen],by simp;omega,h4,?_,?_⟩
        · simp only [Int.toNat_natCast,hlen]
          have:p * Rep.n α+(q - p) * Rep.n α≤l.length * Rep.n α:=by
            rw [← Nat.add_mul];exact Nat.mul_le_mul_right _ (by omega)
          omega
        · intro i hi;simp only [Int.toNat_natCast] at hi ⊢;have hi':i < q - p:=by rw [hlen] at hi;exact hi
          have:=h6 (p+i) (by omega)
          simp only [List.getElem_drop,List.getElem_take];rw [Nat.add_mul,← Nat.add_assoc] at this;exact this
    · intro o a w ho F _;have hb:=Kj (P:=P) (isS:=true) (len:=l.length) (cap:=cap) F hlo hhi (by omega) h1 (by omega) w
      simp [execOp,ho,F.eval hx,Instr.sliceAt,Instr.slice,run_underlying hT,hb,Dn hz,L3];split <;> rfl
theorem ev_cutOwn {α:Type} [Rep α] {g:Gh} {l:List α} {v:Value} {c:Hl} {T E:TypeId} {x:Operand} {lo hi:Option Operand} {q:Int} {l':List α} (hr:OwnS g l v c) (hc:cut? l 0 q=some l') (hT:P.underlying T=some (.slice E)) (hz:(P.info? E).map (·.size)=some (Rep.n α))
    (hx:Bt e x=some v) (hlo:bnd e lo 0 0) (hhi:bnd e hi l.length q):∃ v',OwnS g l' v' c∧Ev P n e C (.slice T x lo hi Option.none) v':=by
  unfold cut? at hc;split at hc
  case isFalse=>cases hc
  rename_i hb
  cases hc;obtain ⟨h0,h1,h2⟩:=hb;rcases hr with ⟨rfl,rfl,rfl⟩ | ⟨b,cap,arr,t,rfl,rfl,h3,h4,h5⟩
  · have hq:q=0:=by simp at h2;omega
    subst hq;refine ⟨.slice Option.none 0 0,by simpa using OwnS.nil g,?_⟩
    intro o a w ho F _;have hb:=Kj (P:=P) (isS:=true) (len:=0) (cap:=0) F hlo (by simpa using hhi) (Int.le_refl 0) (Int.le_refl 0) (by omega) w
    simp [execOp,ho,F.eval hx,Instr.sliceAt,Instr.slice,run_underlying hT,hb,Dn hz]
  · obtain ⟨q,rfl⟩:=Int.eq_ofNat_of_zero_le h1;have hql:q≤l.length:=by omega
    have hlen:(l.take q).length=q:=by simp;omega
    refine ⟨.slice (some ⟨b,0,Option.none⟩) q cap,?_,?_⟩
    · refine .inr ⟨b,cap,arr,t,by simp [hlen],rfl,by simp;omega,h4,?_⟩
      intro i hi;simp only [Int.toNat_natCast,Int.toNat_zero,List.drop_zero] at hi ⊢;rw [hlen] at hi;simp only [List.getElem_take];exact h5 i (by omega)
    · intro o a w ho F _;have hb:=Kj (P:=P) (isS:=true) (len:=l.length) (cap:=cap) F hlo hhi (by omega) (by omega) (by omega) w
      simp [execOp,ho,F.eval hx,Instr.sliceAt,Instr.slice,run_underlying hT,hb,Dn hz,L3]
theorem ev_scut {s s':ByteArray} {T:TypeId} {x:Operand} {lo hi:Option Operand} {p q:Int} (hc:scut? s p q=some s') (hT:P.underlying T=some .string)
    (hx:Bt e x=some (.string s)) (hlo:bnd e lo 0 p) (hhi:bnd e hi s.size q):Ev P n e C (.slice T x lo hi Option.none) (.string s'):=by
  unfold scut? at hc;split at hc
  case isFalse=>cases hc
  rename_i hb
  cases hc;obtain ⟨h0,h1,h2⟩:=hb;intro o a w ho F _;have hb:=Kj (P:=P) (isS:=false) (len:=s.size) (cap:=s.size) F hlo hhi h0 h1 h2 w;simp [execOp,ho,F.eval hx,Instr.sliceAt,Instr.slice,run_underlying hT,hb]
def sAt? (s:ByteArray) (i:Int):Option Int:=(if 0≤i then s[i.toNat]? else Option.none).map fun b=>(b.toNat:Int)
theorem ev_sAt {s:ByteArray} {T:TypeId} {x y:Operand} {k:IntKind} {i c:Int} (hc:sAt? s i=some c) (hT:P.underlying T=some .string) (hx:Bt e x=some (.string s)) (hy:Bt e y=some (.int k i)):Ev P n e C (.index T x y) (.int .u8 c):=by
  intro o a w ho F _;unfold sAt? at hc;cases hb:(if 0≤i then s[i.toNat]? else Option.none) with
  | none=>rw [hb] at hc;cases hc
  | some b =>
    rw [hb] at hc;cases hc;simp [execOp,ho,F.eval hx,F.eval hy,Instr.index,asIntOf,run_underlying hT,hb]
theorem Eq {id:Nat} {l:List Oper} {Q:Exit→Act→World→Prop} {a:Act} {w:World} {g:Gh} {cks:List Hl} {fr:Hl} (hm:P.follows .mixedOrders=true) (hB:Region.lexB .any l.toArray=true) (S:St g cks fr w)
    (h:wpQuiet P l.toArray (St g cks fr) (fun a'=>∀ w',St g cks fr w'→Q .normal a' w') l a):(Code.region id l.toArray true).wpIn (RW Option.none) 0 P Q a w :=
  wpIn_wide.2 (wp_region_quiet (C:=St g cks fr) hm hB (S.keep rfl rfl rfl rfl) (by simpa using h))
theorem Bw {ops:Array Oper} {rest:List Oper} {o:Oper} {Q:Act→Prop} {a:Act} {v:Value} {d:Nat}
    (hg:Region.wanted o (yielded ops a.tmps)=true) (hev:Ev P n e C o.op v) (F:Fr n a e) (hd:o.dst=some d) (hn:Nat.blt d n.sz=true)
    (k:∀ a',Fr n a' ((d,v)::e)→wpQuiet P ops C Q rest a'):wpQuiet P ops C Q (o::rest) a:=by
  unfold wpQuiet;rw [if_pos hg];refine ⟨v,fun w hC=>?_,by rw [hd];exact k _ (F.put hn)⟩
  unfold Oper.quietAt;rw [hev o a w rfl F hC];exact ⟨rfl,rfl⟩
theorem Be {ops:Array Oper} {rest:List Oper} {o:Oper} {Q:Act→Prop} {a:Act} {d j t:Nat} {want b:Bool}
    (hg:o.guard=some (j,want)) (hj:(ops[j]?).bind (·.dst)=some t) (ht:Nat.blt t n.sz=true) (hb:Mp e t=some (.bool b)) (hne:(b == want)=false)
    (F:Fr n a e) (hd:o.dst=some d) (hn:Nat.blt d n.sz=true)
    (k:∀ a',Fr n a' ((d,undef)::e)→wpQuiet P ops C Q rest a'):wpQuiet P ops C Q (o::rest) a:=by
  unfold wpQuiet;rw [if_neg (by rw [Vb F hg hj ht hb,hne];simp)]
  rw [hd];exact k _ (F.put hn)
theorem Nn {ops:Array Oper} {rest:List Oper} {o:Oper} {Q:Act→Prop} {a:Act} {f:Operand} {fn:FuncId} {cap:List Value} {xs:List Operand} {vs:List Value} {A:Array TypeId} {d:Nat} {v:Value}
    (hg:Region.wanted o (yielded ops a.tmps)=true) (ho:o.op=.call { callee:=.value f,args:=xs.toArray,argTypes:=A }) (F:Fr n a e) (hf:Bt e f=some (.func (.func fn) #[] cap.toArray)) (hxs:xs.map (Bt e)=vs.map some)
    (hent:∀ args w,(callFunc fn args).run P w=.ok (.enter fn args) w) (hc:∀ w,C w→Calls P fn (vs++cap).toArray w (fun en w'=>en=.returned v∧C w')) (hd:o.dst=some d) (hn:Nat.blt d n.sz=true)
    (k:∀ a',Fr n a' ((d,v)::e)→wpQuiet P ops C Q rest a'):wpQuiet P ops C Q (o::rest) a:=by
  have hm:xs.map a.eval=vs:=by
    clear ho hc
    induction xs generalizing vs with
    | nil=>cases vs with
      | nil=>rfl
      | cons u r=>simp at hxs
    | cons p r ih=>cases vs with
      | nil=>simp at hxs
      | cons u s =>
        simp only [List.map_cons,List.cons.injEq] at hxs ⊢;exact ⟨F.eval hxs.1,ih hxs.2⟩
  unfold wpQuiet;rw [if_pos hg];refine ⟨v,fun w hC=>?_,by rw [hd];exact k _ (F.put hn)⟩
  unfold Oper.quietAt
  have hrun:(execOp a.eval o).run P w=.ok (.enter fn (vs++cap).toArray) w:=by
    simp [execOp,ho,resolve,F.eval hf,Deferred.ofValue,hm,invoke,hent]
  rw [hrun];exact ⟨rfl,hc w hC⟩
theorem D9 {ops:Array Oper} {Q:Act→Prop} {a:Act} (h:Q a):wpQuiet P ops C Q [] a:=h
theorem St0.sub {g:Gh} {o o':Hl} {w:World} (h:St0 g o w) (s:o'.Sublist o):St0 g o' w where
  snap:=h.snap
  own:=fun p hp=>h.own p (s.subset hp)
  nd:=h.nd.sublist (s.map _)
  os:=h.os
  out:=h.out
  tape:=h.tape
  dr:=h.dr
theorem St.frontC {g:Gh} {cs:List Hl} {fr:Hl} {w:World} (h:St g cs fr w) (k:Nat) {c:Hl} (hk:cs[k]? = some c):St g (c::cs.set k []) fr w:=h.front k hk
theorem fl_sub (xs ys:List Hl) (fr:Hl):(fl xs fr).Sublist (fl (xs++ys) fr):=by
  rw [fl_append]
  induction xs with
  | nil =>
    simp only [fl]
    induction ys with
    | nil=>exact List.Sublist.refl _
    | cons y ys ih=>exact ih.trans (List.sublist_append_right _ _)
  | cons x xs ih=>simp only [fl];exact List.Sublist.append_left ih _
theorem St.tail {g:Gh} {fr:Hl} {w:World} (xs ys:List Hl) (h:St g (xs++ys) fr w):St g xs fr w:=h.sub (fl_sub xs ys fr)
theorem Cc {x y:Code} {Q:Exit→Act→World→Prop} {a:Act} {w:World} (J:Act→World→Prop) (h1:x.wpIn (RW ρ) 0 P (Exit.then J Q) a w) (h2:∀ a w,J a w→y.wpIn (RW ρ) 0 P Q a w):(Code.seq x y).wpIn (RW ρ) 0 P Q a w:=by
  refine wpIn_seq (Go.wpIn_mono h1 ?_);intro en a' w' hq;cases en <;> first | exact h2 _ _ hq | exact hq
theorem uponIn_mono {o:Oper} {a:Act} {next next':Act→World→Prop} {Q Q':Exit→Act→World→Prop} {r:Result Next} (hn:∀ a w,next a w→next' a w) (hq:∀ en a w,en≠Exit.normal→Q en a w→Q' en a w)
    (h:o.uponIn (RW ρ) 0 P a next Q r):o.uponIn (RW ρ) 0 P a next' Q' r:=by
  unfold Oper.uponIn at *;split <;> simp only at h
  · exact hn _ _ h
  · exact hn _ _ h
  · exact hn _ _ h
  · refine ⟨h.1,h.2.mono ?_⟩;intro en w' hh;cases en with
    | returned v=>exact hn _ _ hh
    | panicked ch=>exact hq _ _ _ (by simp) hh
    | outgrown=>obtain ⟨a0,w0,h0⟩:=hh;exact ⟨a0,w0,hq _ _ _ (by simp) h0⟩
  · refine ⟨h.1,h.2.mono ?_⟩;intro v w' hh;exact hn _ _ hh
  · refine ⟨h.1,h.2.mono ?_⟩;intro en w' hh;cases en with
    | returned v=>exact hn _ _ hh
    | panicked ch=>exact hq _ _ _ (by simp) hh
    | outgrown=>obtain ⟨a0,w0,h0⟩:=hh;exact ⟨a0,w0,hq _ _ _ (by simp) h0⟩
  · exact hq _ _ _ (by simp) h
theorem wpList_app {ops:Array Oper} {Q:Exit→Act→World→Prop} (J:Act→World→Prop):∀ (xs:List Oper) {ys:List Oper} {a:Act} {w:World},wpListIn (RW ρ) 0 P ops (Exit.then J Q) xs a w→(∀ a w,J a w→wpListIn (RW ρ) 0 P ops Q ys a w)→wpListIn (RW ρ) 0 P ops Q (xs++ys) a w
  | [],ys,a,w,h,k=>k a w h
  | o::xs,ys,a,w,h,k=>by
    simp only [List.cons_append,wpListIn] at h ⊢;split
    · rename_i hw
      rw [if_pos hw] at h;refine ⟨h.1,uponIn_mono (fun a' w' hh=>wpList_app J xs hh k) ?_ h.2⟩;intro en a' w' hne hh;cases en <;> first | exact absurd rfl hne | exact hh
    · rename_i hw
      rw [if_neg hw] at h;exact ⟨h.1,wpList_app J xs h.2 k⟩
theorem Ca {ops:Array Oper} {Q:Exit→Act→World→Prop} {l:List Oper} {a:Act} {w:World} (k:Nat) (J:Act→World→Prop) (h1:wpListIn (RW ρ) 0 P ops (Exit.then J Q) (l.take k) a w) (h2:∀ a w,J a w→wpListIn (RW ρ) 0 P ops Q (l.drop k) a w):wpListIn (RW ρ) 0 P ops Q l a w:=by
  have:=wpList_app J (l.take k) h1 h2
  rwa [List.take_append_drop] at this
theorem wpQuiet_app {ops:Array Oper} {C:World→Prop} {Q:Act→Prop} (J:Act→Prop):∀ (xs:List Oper) {ys:List Oper} {a:Act},wpQuiet P ops C J xs a→(∀ a,J a→wpQuiet P ops C Q ys a)→wpQuiet P ops C Q (xs++ys) a
  | [],ys,a,h,k=>k a h
  | o::xs,ys,a,h,k=>by
    simp only [List.cons_append,wpQuiet] at h ⊢;split
    · rename_i hw
      rw [if_pos hw] at h;obtain ⟨v,h1,h2⟩:=h;exact ⟨v,h1,wpQuiet_app J xs h2 k⟩
    · rename_i hw
      rw [if_neg hw] at h;exact wpQuiet_app J xs h k
theorem T0 {ops:Array Oper} {C:World→Prop} {Q:Act→Prop} {l:List Oper} {a:Act} (k:Nat) (J:Act→Prop) (h1:wpQuiet P ops C J (l.take k) a) (h2:∀ a,J a→wpQuiet P ops C Q (l.drop k) a):wpQuiet P ops C Q l a:=by
  have:=wpQuiet_app J (l.take k) h1 h2
  rwa [List.take_append_drop] at this
theorem Aj {c:Operand} {x y:Code} {Q:Exit→Act→World→Prop} {a:Act} {w:World} {b:Bool} (F:Fr n a e) (h:Bt e c=some (.bool b)) (hb:b=true) (k:x.wpIn (RW ρ) 0 P Q a w):(Code.cond c x y).wpIn (RW ρ) 0 P Q a w :=
  wpIn_cond_true (by rw [F.eval h,hb]) k
theorem Ai {c:Operand} {x y:Code} {Q:Exit→Act→World→Prop} {a:Act} {w:World} {b:Bool} (F:Fr n a e) (h:Bt e c=some (.bool b)) (hb:b=false) (k:y.wpIn (RW ρ) 0 P Q a w):(Code.cond c x y).wpIn (RW ρ) 0 P Q a w :=
  wpIn_cond_false (by rw [F.eval h,hb]) k
theorem Al {α:Type} {c:Bool} {x y:Option α} {r:α} (h:(if c=true then x else y)=some r):(c=true∧x=some r)∨(c=false∧y=some r):=by
  cases c
  · exact .inr ⟨rfl,by simpa using h⟩
  · exact .inl ⟨rfl,by simpa using h⟩
theorem Aa {α β:Type} {x:Option α} {f:α→Option β} {r:β} (h:x.bind f=some r):∃ y,x=some y∧f y=some r:=Option.bind_eq_some_iff.1 h
end Go.Dc
