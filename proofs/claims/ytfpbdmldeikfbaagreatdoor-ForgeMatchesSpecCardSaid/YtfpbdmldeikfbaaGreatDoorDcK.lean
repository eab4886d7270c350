import Derived.Test.YtfpbdmldeikfbaaGreatDoorDcH
import Derived.ProofKit
import Derived.Below
import Derived.Deep.Slices
set_option linter.unusedSimpArgs false
set_option linter.unusedVariables false
namespace Go.Dc
open Go
variable {P : Program}
def Gh.of (w:World):Gh:={ snap:=fun b=>w.heap[b]?,os:=w.os,out:=w.output,tape:=w.tape,dr:=w.drawn }
theorem St.of (w:World):St (Gh.of w) [] [] w where
 snap:=fun _ _ h=>h
 own:=fun p h=>by cases h
 nd:=List.nodup_nil
 os:=rfl
 out:=rfl
 tape:=rfl
 dr:=B7 _
theorem below_of {w w':World} {g:Gh} {cs:List Hl} {fr:Hl} (l:Le (Gh.of w) g) (S:St g cs fr w'):RowKit.Below w.heap.size w w' where
 os:=S.os.trans l.os
 tape:=S.tape.trans l.tape
 output:=S.out.trans l.out
 size:=by
  rcases Nat.eq_zero_or_pos w.heap.size with h | h
  ·omega
  ·have hb:w.heap[w.heap.size - 1]? = some (w.heap[w.heap.size - 1]'(by omega)):=Array.getElem?_eq_getElem (by omega)
   have:=U3 (S.snap _ _ (l.snap _ _ hb));omega
 block:=by
  intro k hk;have hb:w.heap[k]? = some w.heap[k]:=Array.getElem?_eq_getElem hk;rw [hb];exact S.snap _ _ (l.snap _ _ hb)
class Msr (α:Type) where
 m:α→Nat
instance:Msr Int:=⟨fun _=>1⟩
instance:Msr UInt8:=⟨fun _=>1⟩
instance:Msr Bool:=⟨fun _=>1⟩
instance:Msr ByteArray:=⟨fun s=>s.size+1⟩
def msum {α:Type} [Msr α]:List α→Nat
 | []=>0
 | x::r=>Msr.m x+msum r
instance {α:Type} [Msr α]:Msr (List α):=⟨fun l=>msum l+1⟩
structure Blk {H:Type} (B:DataW H→Nat) (BA:List (DataW H)→Nat):Prop where
 one:∀ d,1≤B d
 str:∀ b,b.length+1≤B (.lit (.string b))
 slice:∀ l r,BA l+1≤B (.slice l r)
 agg:∀ l,BA l+1≤B (.agg l)
 cons:∀ d r,B d+BA r≤BA (d::r)
theorem Blk.all {H:Type} {B:DataW H→Nat} {BA:List (DataW H)→Nat} (hB:Blk B BA) {α:Type} [Msr α]:∀ (l:List α) (ds:List (DataW H)),l.length=ds.length→(∀ i (h:i < l.length) (h':i < ds.length),Msr.m l[i]≤B ds[i])→msum l≤BA ds
 | [],[],_,_=>Cs _
 | x::l,d::ds,h,he=>by
  have h1:=he 0 (by simp) (by simp)
  have h2:=Blk.all hB l ds (by simpa using h) (fun i hi hi'=>he (i+1) (by simpa using hi) (by simpa using hi'))
  have h3:=hB.cons d ds;simp only [List.getElem_cons_zero] at h1;simp only [msum];omega
 | [],_::_,h,_=>by simp at h
 | _::_,[],h,_=>by simp at h
def W4 (P:Program) (T:TypeId) (α:Type) [Rep α] [Msr α] (Ok:α→Prop):Prop :=
 ∀ (H:Type) (enc:TypeId×Value→H) (w:World) (fuel:Nat) (cs:List Value) (x:DataW H×List MemPlace),DataW.trod enc P w 0 (fun _=>true) true fuel T cs=some x →
  ∃ d:α,Rep.rep (Gh.of w) d cs∧Ok d∧∀ (B:DataW H→Nat) (BA:List (DataW H)→Nat),Blk B BA→Msr.m d≤B x.1
theorem Yc {T:TypeId} (h:P.underlying T=some (.int .i64)):W4 P T Int (fun x=>-9223372036854775808≤x∧x≤9223372036854775807):=by
 intro H enc w fuel cs x ht;obtain ⟨m,rfl,_,hw⟩:=DataW.trod_int h ht;refine ⟨m,rfl,?_,fun B BA hB=>hB.one _⟩;simp [Lit.wf,IntKind.min,IntKind.max,IntKind.bits,IntKind.signed] at hw;omega
theorem read_str {T:TypeId} (h:P.underlying T=some .string):W4 P T ByteArray (fun s=>s.size≤9223372036854775807):=by
 intro H enc w fuel cs x ht;obtain ⟨m,rfl,rfl,hm⟩:=DataW.trod_string h ht
 exact ⟨m,rfl,by unfold maxLen at hm;omega,fun B BA hB=>by
  have:=hB.str m.data.toList;rw [Array.length_toList] at this;exact this⟩
theorem cells_some {w:World} {a:Addr} {n:Nat} {cs:List Value} (h:w.cells? 0 a n=some cs):cs.length=n∧∀ i,i < n→w.cell? (a.add i)=cs[i]?:=by
 unfold World.cells? at h;rw [Ad (Cs _)] at h
 have key:∀ (l:List Nat) (cs:List Value),l.mapM (fun i=>w.cell? (a.add i))=some cs→cs.length=l.length∧∀ k (hk:k < l.length),w.cell? (a.add l[k])=cs[k]?:=by
  intro l
  induction l with
  | nil=>intro cs h;simp at h;subst h;exact ⟨rfl,fun k hk=>by simp at hk⟩
  | cons x r ih =>
   intro cs h;rw [List.mapM_cons] at h;cases hx:w.cell? (a.add x) with
   | none=>rw [hx] at h;simp at h
   | some v =>
    rw [hx] at h;cases hr:r.mapM (fun i=>w.cell? (a.add i)) with
    | none=>rw [hr] at h;simp at h
    | some vs =>
     rw [hr] at h;simp at h;subst h;obtain ⟨h1,h2⟩:=ih vs hr;refine ⟨by simp [h1],fun k hk=>?_⟩
     cases k with
     | zero=>simpa using hx
     | succ k=>simpa using h2 k (by simpa using hk)
 obtain ⟨h1,h2⟩:=key _ cs h;rw [List.length_range] at h1;exact ⟨h1,fun i hi=>by have:=h2 i (by simpa using hi);simpa using this⟩
theorem Wa {T E:TypeId} {α:Type} [Rep α] [Msr α] {Ok:α→Prop} (h:P.underlying T=some (.slice E)) (hc:P.cellsOf E=Rep.n α) (hn:0 < Rep.n α) (hr:W4 P E α Ok) :
  W4 P T (List α) (fun l=>l.length≤9223372036854775807∧∀ x∈l,Ok x):=by
 intro H enc w fuel cs x ht;rcases Deep.open_slice h ht with ⟨rfl,_⟩ | ⟨a,len,cap,m,n,D,Pl,rfl,_,hlc,hcm,hm,hx1,hel⟩
 ·exact ⟨[],⟨_,rfl,RepSl.nil _⟩,⟨by simp,by simp⟩,fun B BA hB=>hB.one _⟩
 ·simp only [E4] at hm;subst hm
  have hex:∀ i,i < len→∃ d:α,(∃ ec,w.cells? 0 (a.add (i * Rep.n α)) (Rep.n α)=some ec∧Rep.rep (Gh.of w) d ec)∧Ok d∧∀ (B:DataW H→Nat) (BA:List (DataW H)→Nat),Blk B BA→Msr.m d≤B (D i):=by
   intro i hi;obtain ⟨ec,h1,h2⟩:=hel i (by omega)
   obtain ⟨d,h3,h4,h5⟩:=hr H enc w n ec _ h2;rw [hc] at h1;exact ⟨d,⟨ec,h1,h3⟩,h4,h5⟩
  obtain ⟨l,hl,hl2⟩:∃ l:List α,l.length=len∧∀ i (hi:i < l.length),(∃ ec,w.cells? 0 (a.add (i * Rep.n α)) (Rep.n α)=some ec∧Rep.rep (Gh.of w) l[i] ec)∧Ok l[i]∧∀ (B:DataW H→Nat) (BA:List (DataW H)→Nat),Blk B BA→Msr.m l[i]≤B (D i):=by
   have key:∀ k,k≤len→∃ l:List α,l.length=k∧∀ i (hi:i < l.length),(∃ ec,w.cells? 0 (a.add (i * Rep.n α)) (Rep.n α)=some ec∧Rep.rep (Gh.of w) l[i] ec)∧Ok l[i]∧∀ (B:DataW H→Nat) (BA:List (DataW H)→Nat),Blk B BA→Msr.m l[i]≤B (D i):=by
    intro k
    induction k with
    | zero=>intro _;exact ⟨[],rfl,fun i hi=>by simp at hi⟩
    | succ k ih =>
    intro hk;obtain ⟨l,h1,h2⟩:=ih (by omega)
    obtain ⟨d,hd⟩:=hex k (by omega)
    refine ⟨l++[d],by simp [h1],fun i hi=>?_⟩
    by_cases hik:i < l.length
    ·simp only [Gb hik];exact h2 i hik
    ·have hi2:i=k:=by simp at hi;omega
     subst hi2;simp only [Hw (show l.length≤i by omega),h1,Mb,List.getElem_cons_zero]
     exact hd
   exact key len (B7 _)
  refine ⟨l,⟨_,rfl,?_⟩,⟨by unfold maxLen at hcm;omega,?_⟩,?_⟩
  ·rcases Nat.eq_zero_or_pos len with h0 | h0
   ·subst h0;have:l=[]:=Db hl;subst this;exact .inl ⟨rfl,_,_,rfl⟩
   ·
    obtain ⟨b,off,spot⟩:=a;obtain ⟨⟨ec,h1,_⟩,_⟩:=hl2 0 (by omega)
    obtain ⟨h2,h3⟩:=cells_some h1;have h4:=h3 0 hn;rw [A3 (by omega)] at h4
    have hsp:spot=Option.none:=by
     simp only [Nat.zero_mul,Addr.add,E4,World.cell?] at h4;split at h4
     ·cases spot with
      | none=>rfl
      | some s=>simp at h4
     ·cases h4
    subst hsp
    have hblk:∃ c t fz,w.heap[b]? = some (.cells c t fz):=by
     simp only [Nat.zero_mul,Addr.add,E4,World.cell?] at h4;split at h4
     ·rename_i c t fz hh;exact ⟨c,t,fz,hh⟩
     ·cases h4
    obtain ⟨c,t,fz,hb⟩:=hblk
    have hcell:∀ i (hi:i < l.length),∃ ec,ec.length=Rep.n α∧Rep.rep (Gh.of w) l[i] ec∧∀ j,j < Rep.n α→c[off+i * Rep.n α+j]? = ec[j]?:=by
     intro i hi;obtain ⟨⟨ec,h5,h6⟩,_⟩:=hl2 i hi;obtain ⟨h7,h8⟩:=cells_some h5;refine ⟨ec,h7,h6,fun j hj=>?_⟩;have:=h8 j hj;rw [Qd,Qd,cell_at hb] at this;exact this
    have hsz:off+l.length * Rep.n α≤c.size:=by
     obtain ⟨ec,h5,_,h7⟩:=hcell (l.length - 1) (by omega)
     have h8:=h7 (Rep.n α - 1) (by omega)
     rw [A3 (by omega)] at h8
     have h9:off+(l.length - 1) * Rep.n α+(Rep.n α - 1) < c.size:=by
      rcases Ec (off+(l.length - 1) * Rep.n α+(Rep.n α - 1)) c.size with h | h
      ·exact h
      ·rw [Array.getElem?_eq_none h] at h8;cases h8
     have:(l.length - 1) * Rep.n α+Rep.n α=l.length * Rep.n α:=by
      rw [← Nat.succ_mul];congr 1;omega
     omega
    refine .inr ⟨b,off,m,c,t,fz,by rw [hl],by omega,hb,hsz,fun i hi=>?_⟩
    obtain ⟨ec,h5,h6,h7⟩:=hcell i hi
    have:(c.toList.drop (off+i * Rep.n α)).take (Rep.n α)=ec:=by
     apply List.ext_getElem?;intro j;rw [List.getElem?_take];split
     ·rename_i hj
      rw [List.getElem?_drop,Array.getElem?_toList,h7 j hj]
     ·rename_i hj
      rw [List.getElem?_eq_none (by omega)]
    rw [this];exact h6
  ·intro x hx;obtain ⟨i,hi,rfl⟩:=Ci hx;exact (hl2 i hi).2.1
  ·intro B BA hB;rw [hx1];have h1:=fun R=>hB.slice ((List.range len).map D) R
   have h2:=hB.all l ((List.range len).map D) (by simp [hl]) (fun i hi hi'=>by
    simp only [List.getElem_map,List.getElem_range];exact (hl2 i hi).2.2 B BA hB)
   show msum l+1≤_;refine Bx ?_ (h1 _);omega
theorem Ye {H:Type} {enc:TypeId×Value→H} {w:World} {fuel:Nat} {T:TypeId} {cs:List Value} {x:DataW H×List MemPlace} {fs:Array Field} (h:P.underlying T=some (.struct fs))
  (ht:DataW.trod enc P w 0 (fun _=>true) true fuel T cs=some x):cs.length=P.cellsOf T∧∃ n,∃ ys:List (DataW H×List MemPlace),x.1=.agg (ys.map (·.1))∧ys.length=fs.size∧∀ (i:Nat) (off:Nat) (ft:TypeId),(fs[i]?).map (fun f=>(f.offset,f.type))=some (off,ft)→∃ y,ys[i]? = some y∧DataW.trod enc P w 0 (fun _=>true) true n ft ((cs.drop off).take (P.cellsOf ft))=some y:=by
 cases fuel with
 | zero=>simp [DataW.trod] at ht
 | succ n =>
  have key:∀ (l:List Field) (ys:List (DataW H×List MemPlace)),l.mapM (fun f=>DataW.trod enc P w 0 (fun _=>true) true n f.type ((cs.drop f.offset).take (P.cellsOf f.type)))=some ys→ys.length=l.length∧∀ (i:Nat) (f:Field),l[i]? = some f→∃ y,ys[i]? = some y∧DataW.trod enc P w 0 (fun _=>true) true n f.type ((cs.drop f.offset).take (P.cellsOf f.type))=some y:=by
   intro l
   induction l with
   | nil=>intro ys h;simp at h;subst h;exact ⟨rfl,fun i f hf=>by simp at hf⟩
   | cons q r ih =>
    intro ys h;rw [List.mapM_cons] at h;cases hq:DataW.trod enc P w 0 (fun _=>true) true n q.type ((cs.drop q.offset).take (P.cellsOf q.type)) with
    | none=>rw [hq] at h;simp at h
    | some y =>
     rw [hq] at h;cases hr:r.mapM (fun f=>DataW.trod enc P w 0 (fun _=>true) true n f.type ((cs.drop f.offset).take (P.cellsOf f.type))) with
     | none=>rw [hr] at h;simp at h
     | some vs =>
      rw [hr] at h;simp at h;subst h;obtain ⟨h1,h2⟩:=ih vs hr;refine ⟨by simp [h1],fun i f hf=>?_⟩
      cases i with
      | zero=>simp at hf;subst hf;exact ⟨y,rfl,hq⟩
      | succ i=>simpa using h2 i f (by simpa using hf)
  unfold DataW.trod at ht;rw [h] at ht;simp only at ht;split at ht
  ·rename_i hlen
   cases hm:(fs.toList.mapM fun f=>DataW.trod enc P w 0 (fun _=>true) true n f.type ((cs.drop f.offset).take (P.cellsOf f.type))) with
   | none=>rw [hm] at ht;simp at ht
   | some ys =>
    rw [hm] at ht;simp at ht;obtain ⟨h1,h2⟩:=key _ ys hm;refine ⟨hlen,n,ys,by rw [← ht],by simpa using h1,fun i off ft hi=>?_⟩
    cases hfi:fs[i]? with
    | none=>rw [hfi] at hi;cases hi
    | some f =>
     rw [hfi] at hi;simp at hi;obtain ⟨rfl,rfl⟩:=hi;exact h2 i f (by simpa using hfi)
  ·cases ht
theorem Blk.at {H:Type} {B:DataW H→Nat} {BA:List (DataW H)→Nat} (hB:Blk B BA):∀ {ys:List (DataW H×List MemPlace)} {i:Nat} {y:DataW H×List MemPlace},ys[i]? = some y→B y.1≤BA (ys.map (·.1))
 | x::ys,0,y,h=>by
  simp at h;subst h;have:=hB.cons x.1 (ys.map (·.1));simp only [Dg];omega
 | x::ys,i+1,y,h=>by
  have h1:=Blk.at hB (ys:=ys) (i:=i) (y:=y) (by simpa using h)
  have:=hB.cons x.1 (ys.map (·.1));simp only [Dg];omega
 | [],_,_,h=>by simp at h
end Go.Dc
namespace Go.Dc
open Go
variable {P : Program} {ρ : Option Nat} {n : Fw} {e : List (Nat × Value)} {C : World → Prop}
def andI (k:IntKind) (x y:Int):Int:=k.wrap (BitVec.ofInt k.bits x &&& BitVec.ofInt k.bits y).toNat
def orI (k:IntKind) (x y:Int):Int:=k.wrap (BitVec.ofInt k.bits x ||| BitVec.ofInt k.bits y).toNat
def xorI (k:IntKind) (x y:Int):Int:=k.wrap (BitVec.ofInt k.bits x ^^^ BitVec.ofInt k.bits y).toNat
theorem bo_and (T:TypeId) (k:IntKind) (p q:Int) (w:World):(binOp .and T (.int k p) (.int k q)).run P w=.ok (.int k (andI k p q)) w:=by simp [binOp,Op.intBits,andI]
theorem bo_or (T:TypeId) (k:IntKind) (p q:Int) (w:World):(binOp .or T (.int k p) (.int k q)).run P w=.ok (.int k (orI k p q)) w:=by simp [binOp,Op.intBits,orI]
theorem bo_xor (T:TypeId) (k:IntKind) (p q:Int) (w:World):(binOp .xor T (.int k p) (.int k q)).run P w=.ok (.int k (xorI k p q)) w:=by simp [binOp,Op.intBits,xorI]
def shr? (k:IntKind) (x y:Int):Option Int:=if y < 0 then Option.none else some (x.fdiv (2 ^ (min y.toNat k.bits)))
def shl? (k:IntKind) (x y:Int):Option Int:=if y < 0 then Option.none else some (k.wrap (x * 2 ^ (min y.toNat k.bits)))
theorem ev_shr {T U:TypeId} {x y:Operand} {k k':IntKind} {p q r:Int} (h:shr? k p q=some r) (hx:Bn e x=some (.int k p)) (hy:Bn e y=some (.int k' q)):Ev P n e C (.binOp .shr T x y U) (.int k r):=by
 unfold shr? at h;split at h
 ·cases h
 ·rename_i hq
  cases h;intro o a w ho F _;simp [execOp,ho,F.eval hx,F.eval hy,eqGuard,binOp,Op.shift,hq]
theorem ev_shl {T U:TypeId} {x y:Operand} {k k':IntKind} {p q r:Int} (h:shl? k p q=some r) (hx:Bn e x=some (.int k p)) (hy:Bn e y=some (.int k' q)):Ev P n e C (.binOp .shl T x y U) (.int k r):=by
 unfold shl? at h;split at h
 ·cases h
 ·rename_i hq
  cases h;intro o a w ho F _;simp [execOp,ho,F.eval hx,F.eval hy,eqGuard,binOp,Op.shift,hq]
theorem ev_conv {T T':TypeId} {x:Operand} {k k':IntKind} {p r:Int} (h:ckK k' p=some r) (hT:P.underlying T=some (.int k)) (hT':P.underlying T'=some (.int k')) (hx:Bn e x=some (.int k p)):Ev P n e C (.convert T T' x) (.int k' r):=by
 obtain ⟨h1,rfl⟩:=ckK_some h;intro o a w ho F _;simp [execOp,ho,F.eval hx,convert,run_underlying hT,run_underlying hT',Conv.intToInt,h1]
theorem ev_convS {T T':TypeId} {x:Operand} {s:ByteArray} (hT:P.underlying T=some .string) (hT':P.underlying T'=some .string) (hx:Bn e x=some (.string s)):Ev P n e C (.convert T T' x) (.string s):=by
 intro o a w ho F _;simp [execOp,ho,F.eval hx,convert,run_underlying hT,run_underlying hT']
theorem wl_s2b {ops:Array Oper} {rest:List Oper} {o:Oper} {Q:Exit→Act→World→Prop} {a:Act} {w:World} {g:Gh} {cks:List Hl} {fr:Hl} {T T' E:TypeId} {x:Operand} {d:Nat} {s:ByteArray}
  (hg:Region.wanted o (yielded ops a.tmps)=true) (ho:o.op=.convert T T' x) (hT:P.underlying T=some .string) (hT':P.underlying T'=some (.slice E)) (hE:P.underlying E=some (.int .u8)) (hx:Bn e x=some (.string s))
  (F:Fr n a e) (S:St g cks fr w) (hd:o.dst=some d) (hn:Nat.blt d n.sz=true)
  (K:∀ g' v a' w',Le g g'→RepSl g' s.data.toList v→Fr n a' ((d,v)::e)→St g' cks fr w'→wpListIn (RW ρ) 0 P ops Q rest a' w'):wpListIn (RW ρ) 0 P ops Q (o::rest) a w:=by
 let cap:=grownCap w s.size 0 E;have hcap:s.size≤cap:=grownCap_ge w s.size 0 E;let arr:Array Value:=s.data.map (fun b=>Value.int .u8 b.toNat)++Array.replicate (cap - s.size) (.int .u8 0)
 have hsz:arr.size=cap:=by
  have:s.data.size=s.size:=rfl;simp [arr,this];omega
 let ob:Obj:=.cells arr E (arr.size,arr.size+1);let w1:World:=w.drew.alloc (.cells arr E);let w2:World:=w1.freeze ⟨w.heap.size,arr.size,Option.none⟩ 1;have hs:w1.heap[w.heap.size]? = some (.cells arr E (0,0)):=by show (w.heap.push _)[w.heap.size]? = _;simp
 have hm:(markStringish ⟨w.heap.size,0,Option.none⟩).run P w1=.ok () w2:=by
  simp [markStringish,shape,freeze,Sem.run,World.shape?,hs,w2]
 have hrun:(execOp a.eval o).run P w=.ok (.value (.slice (some ⟨w.heap.size,0,Option.none⟩) s.size cap)) w2:=by
  simp [execOp,ho,F.eval hx,convert,run_underlying hT,run_underlying hT',run_underlying hE,Conv.stringToBytes,choose,Sem.run,Question.forced,newRow,newObj];have hm':=hm;simp only [w1,arr,cap,grownCap] at hm';rw [hm'];rfl
 have h2:w2.heap=w.heap.push ob:=by
  simp only [w2,w1,World.freeze,World.drew,World.alloc];rw [Ac (by decide)]
  apply Array.ext
  ·simp
  ·intro i h1 h3;simp only [Array.getElem_modify,Array.getElem_push];simp only [Array.size_push] at h3;by_cases hi:i < w.heap.size
   ·rw [Ac (by omega)]
    simp [hi]
   ·have:w.heap.size=i:=by omega
    subst this;simp [ob]
 refine Ue hg hrun (by intro d;simp) ?_
 simp only [Oper.uponIn,hd];have S2:St g ([(w.heap.size,ob)]::cks) fr w2:=St0.push S h2 rfl rfl rfl;refine K (g.add [(w.heap.size,ob)]) _ _ w2 (Le.add _ _) ?_ (F.put hn) (S2.freeze 0 rfl);have hsn:(g.add [(w.heap.size,ob)]).snap w.heap.size=some ob:=Gh.add_snap (p:=(w.heap.size,ob)) (c:=[(w.heap.size,ob)]) (o:=fl cks fr) (w:=w2) S2 (by simp)
 have hlen:s.data.toList.length=s.size:=by rw [Array.length_toList];rfl
 refine .inr ⟨w.heap.size,0,cap,arr,E,_,by rw [hlen],by rw [hlen];exact hcap,hsn,?_,?_⟩
 ·show 0+s.data.toList.length * 1≤arr.size;rw [hlen,hsz];omega
 ·intro i hi;show (arr.toList.drop (0+i * 1)).take 1=[.int .u8 (s.data.toList[i]).toNat];have hi':i < s.data.size:=by simpa using hi
  rw [Gc,Nat.mul_one]
  have:arr.toList.drop i=arr[i]'(by rw [hsz];rw [hlen] at hi;omega)::arr.toList.drop (i+1):=by
   rw [Cq (by simp only [Array.length_toList];rw [hsz];rw [hlen] at hi;omega)]
   simp
  rw [this];simp only [List.take_succ_cons,G6,arr];rw [Array.getElem_append_left (by simpa using hi')]
  simp
theorem ev_indexAI {T E len:Nat} {x y:Operand} {xs:List Int} {cs:List Value} {k k':IntKind} {i r:Int} (h:at? xs i=some r) (hT:P.underlying T=some (.array len E)) (hE:P.underlying E=some (.int k')) (hz:(P.info? E).map (·.size)=some 1) (hlen:xs.length=len)
  (hcs:xs.map (Value.int k')=cs) (hx:Bn e x=some (.agg cs.toArray)) (hy:Bn e y=some (.int k i)):Ev P n e C (.index T x y) (.int k' r):=by
 obtain ⟨h0,hlt,hr⟩:=Mk h;intro o a w ho F _;have h1:i < (len:Int):=by omega
 subst hcs;simp [execOp,ho,F.eval hx,F.eval hy,Instr.index,asIntOf,run_underlying hT,h0,h1,part,Q0 hE,W9,E8 hz,hlt,hr]
def AllSl {α:Type} [Rep α] (g:Gh):List (List α)→List Value→Prop
 | [],[]=>True
 | l::ls,v::vs=>RepSl g l v∧AllSl g ls vs
 | _,_=>False
theorem AllSl.at {α:Type} [Rep α] {g:Gh}:∀ {ls:List (List α)} {vs:List Value},AllSl g ls vs→∀ (i:Nat) (h:i < ls.length),∃ v,vs[i]? = some v∧RepSl g ls[i] v
 | _::_,v::_,h,0,_=>⟨v,rfl,h.1⟩
 | _::_,_::_,h,i+1,hi=>by
  obtain ⟨v,h1,h2⟩:=AllSl.at h.2 i (by simpa using hi)
  exact ⟨v,by simpa using h1,by simpa using h2⟩
 | [],[],_,_,hi=>absurd hi (by simp)
 | [],_::_,h,_,_=>h.elim
 | _::_,[],h,_,_=>h.elim
theorem ev_indexASl {α:Type} [Rep α] {g:Gh} {T E len E':Nat} {x y:Operand} {ls:List (List α)} {r:List α} {cs:List Value} {k:IntKind} {i:Int} (h:at? ls i=some r) (hT:P.underlying T=some (.array len E)) (hE:P.underlying E=some (.slice E')) (hz:(P.info? E).map (·.size)=some 1) (hlen:ls.length=len)
  (hcs:AllSl g ls cs) (hx:Bn e x=some (.agg cs.toArray)) (hy:Bn e y=some (.int k i)):∃ v,RepSl g r v∧Ev P n e C (.index T x y) v:=by
 obtain ⟨h0,hlt,hr⟩:=Mk h;obtain ⟨v,h2,h3⟩:=hcs.at i.toNat hlt;rw [hr] at h3;refine ⟨v,h3,?_⟩;intro o a w ho F _;have h1:i < (len:Int):=by omega
 simp [execOp,ho,F.eval hx,F.eval hy,Instr.index,asIntOf,run_underlying hT,h0,h1,part,Q0 hE,W9,E8 hz,h2]
theorem V8 {x:Operand} {p:Value} (h:∃ a,p=.pointer (some a)) (hx:Bn e x=some p):Ev P n e C (.nilCheck x) p:=by
 obtain ⟨a0,rfl⟩:=h;exact Lt hx
end Go.Dc
namespace Go.Dc
open Go
variable {P : Program} {ρ : Option Nat} {n : Fw} {e : List (Nat × Value)} {C : World → Prop}
structure Raw (m:Nat) where
 cs:List Value
 len:cs.length=m
 one:∀ v∈cs,Tq v=true
instance (m:Nat):Rep (Raw m) where
 one:=fun {_ x _} h v hv=>by rw [h] at hv;exact x.one v hv
 n:=m
 rep:=fun _ x cs=>cs=x.cs
 len:=fun {_ x _} h=>by rw [h];exact x.len
 mono:=fun _ h=>h
def Fz (g:Gh) (c:Hl):Prop:=∀ p∈c,g.snap p.1=some p.2
theorem Fz.left {g:Gh} {c d:Hl} (h:Fz g (c++d)):Fz g c:=fun p hp=>h p (D4 _ hp)
theorem Fz.right {g:Gh} {c d:Hl} (h:Fz g (c++d)):Fz g d:=fun p hp=>h p (Es _ hp)
theorem Fz.perm {g:Gh} {c d:Hl} (h:Fz g c) (p:c.Perm d):Fz g d:=fun q hq=>h q (p.mem_iff.2 hq)
theorem Fz.add {g:Gh} {c o:Hl} {w:World} (s:St0 g (c++o) w):Fz (g.add c) c:=fun _ hp=>Gh.add_snap s hp
theorem Fz.mem {g:Gh} {ks:List Hl} (h:Fz g ks.flatten) {i:Nat} (hi:i < ks.length):Fz g ks[i] :=
 fun q hq=>h q (List.mem_flatten.2 ⟨_,Ar hi,hq⟩)
theorem OwnS.fz {α:Type} [Rep α] {g g':Gh} {l:List α} {v:Value} {c:Hl} (hl:Le g g') (hf:Fz g' c) (h:OwnS g l v c):RepSl g' l v:=by
 rcases h with ⟨h1,h2,h3⟩ | ⟨b,cap,arr,t,h1,h2,h3,h4,h5⟩
 ·exact .inl ⟨h2,_,_,h1⟩
 ·subst h2
  exact .inr ⟨b,0,cap,arr,t,(0,0),h1,h3,hf (b,.cells arr t (0,0)) (by simp),by rw [h4,Gc];exact Aq _ h3,fun i hi=>by
   rw [Gc];exact Rep.mono hl (h5 i hi)⟩
class ORep (α:Type) [Rep α] where
 orep:Gh→α→List Value→Hl→Prop
 olen:∀ {g:Gh} {x:α} {cs:List Value} {c:Hl},orep g x cs c→cs.length=Rep.n α
 omono:∀ {g g':Gh} {x:α} {cs:List Value} {c:Hl},Le g g'→orep g x cs c→orep g' x cs c
 oone:∀ {g:Gh} {x:α} {cs:List Value} {c:Hl},orep g x cs c→∀ v∈cs,Tq v=true
 ofz:∀ {g g':Gh} {x:α} {cs:List Value} {c:Hl},Le g g'→Fz g' c→orep g x cs c→Rep.rep g' x cs
instance {α:Type} [Rep α]:ORep (List α) where
 orep:=fun g l cs c=>∃ v,cs=[v]∧OwnS g l v c
 olen:=fun ⟨v,h,_⟩=>by rw [h];rfl
 omono:=fun hl ⟨v,h,h'⟩=>⟨v,h,h'.mono hl⟩
 oone:=fun ⟨v,h,h'⟩ u hu=>by rw [h] at hu;simp at hu;rw [hu];exact h'.one
 ofz:=fun hl hf ⟨v,h,h'⟩=>⟨v,h,h'.fz hl hf⟩
theorem Zh {α:Type} [Rep α] {g:Gh} {l:List α} {cs:List Value} {c:Hl} (h:ORep.orep g l cs c):∃ v,cs=[v]∧OwnS g l v c:=h
theorem Oo {α:Type} [Rep α] {g:Gh} {l:List α} {v:Value} {c:Hl} (h:OwnS g l v c):ORep.orep g l [v] c:=⟨v,rfl,h⟩
section
variable {α : Type} [Rep α] [ORep α]
def rawOf {g:Gh} {x:α} {cs:List Value} {c:Hl} (h:ORep.orep g x cs c):Raw (Rep.n α):=⟨cs,ORep.olen h,ORep.oone h⟩
def OwnN (g:Gh) (l:List α) (v:Value) (c:Hl):Prop :=
 ∃ (rl:List (Raw (Rep.n α))) (ca:Hl) (ks:List Hl),OwnS g rl v ca∧c.Perm (ca++ks.flatten)∧rl.length=l.length∧ks.length=l.length ∧
  ∀ i (h:i < l.length) (h1:i < rl.length) (h2:i < ks.length),ORep.orep g l[i] rl[i].cs ks[i]
def HoleN (g:Gh) (l:List α) (v:Value) (i:Int) (cs:List Value) (ca cr:Hl):Prop :=
 0≤i∧∃ (rl:List (Raw (Rep.n α))) (ks:List Hl) (r:Raw (Rep.n α)),OwnS g rl v ca∧cr.Perm ks.flatten∧rl.length=l.length∧ks.length=l.length∧i.toNat < l.length∧at? rl i=some r∧r.cs=cs∧ks[i.toNat]? = some [] ∧
  ∀ j (h:j < l.length) (h1:j < rl.length) (h2:j < ks.length),j≠i.toNat→ORep.orep g l[j] rl[j].cs ks[j]
theorem OwnN.nil (g:Gh):OwnN g ([]:List α) (.slice Option.none 0 0) []:=⟨[],[],[],OwnS.nil g,Ko _,rfl,rfl,fun i h=>by simp at h⟩
theorem OwnN.mono {g g':Gh} {l:List α} {v:Value} {c:Hl} (hl:Le g g') (h:OwnN g l v c):OwnN g' l v c:=by
 obtain ⟨rl,ca,ks,h1,h2,h3,h4,h5⟩:=h;exact ⟨rl,ca,ks,h1.mono hl,h2,h3,h4,fun i a b c=>ORep.omono hl (h5 i a b c)⟩
theorem HoleN.mono {g g':Gh} {l:List α} {v:Value} {i:Int} {cs:List Value} {ca cr:Hl} (hl:Le g g') (h:HoleN g l v i cs ca cr):HoleN g' l v i cs ca cr:=by
 obtain ⟨h0,rl,ks,r,h1,h2,h3,h4,h5,h6,h7,h8,h9⟩:=h;exact ⟨h0,rl,ks,r,h1.mono hl,h2,h3,h4,h5,h6,h7,h8,fun j a b c d=>ORep.omono hl (h9 j a b c d)⟩
theorem OwnN.len {g:Gh} {l:List α} {v:Value} {c:Hl} (h:OwnN g l v c):∃ a cap,v=.slice a l.length cap∧l.length≤cap:=by
 obtain ⟨rl,ca,ks,h1,h2,h3,_⟩:=h;rw [← h3];exact h1.len
theorem OwnN.one {g:Gh} {l:List α} {v:Value} {c:Hl} (h:OwnN g l v c):Tq v=true:=by
 obtain ⟨rl,ca,ks,h1,_⟩:=h;exact h1.one
theorem OwnN.csz {g:Gh} {l:List α} {v:Value} {c:Hl} (h:OwnN g l v c):v.cells.size=1:=by
 obtain ⟨rl,ca,ks,h1,_⟩:=h;exact h1.csz
theorem OwnN.cl {g:Gh} {l:List α} {v:Value} {c:Hl} (h:OwnN g l v c):v.cells.toList=[v]:=by
 obtain ⟨rl,ca,ks,h1,_⟩:=h;exact h1.cl
theorem OwnN.isSl {g:Gh} {l:List α} {v:Value} {c:Hl} (h:OwnN g l v c):T8 v:=by
 obtain ⟨rl,ca,ks,h1,_⟩:=h;exact h1.isSl
theorem OwnN.fz {g g':Gh} {l:List α} {v:Value} {c:Hl} (hl:Le g g') (hf:Fz g' c) (h:OwnN g l v c):RepSl g' l v:=by
 obtain ⟨rl,ca,ks,h1,h2,h3,h4,h5⟩:=h;have hf':=hf.perm h2;rcases h1.fz hl hf'.left with ⟨hr,a,cap,hv⟩ | ⟨b,off,cap,c,t,fz,k1,k2,k3,k4,k5⟩
 ·subst hr;have:l=[]:=by apply Db;rw [← h3];rfl
  exact .inl ⟨this,a,cap,hv⟩
 ·refine .inr ⟨b,off,cap,c,t,fz,by rw [← h3];exact k1,by rw [← h3];exact k2,k3,by rw [← h3];exact k4,fun i hi=>?_⟩
  have hi1:i < rl.length:=by omega
  have hi2:i < ks.length:=by omega
  have k:=k5 i hi1;have:((c.toList.drop (off+i * Rep.n α)).take (Rep.n α))=rl[i].cs:=k;rw [this];exact ORep.ofz hl (hf'.right.mem hi2) (h5 i hi hi1 hi2)
theorem OwnN.freeze {g:Gh} {l:List α} {v:Value} {c:Hl} {o:Hl} {w:World} (s:St0 g (c++o) w) (h:OwnN g l v c):RepSl (g.add c) l v:=h.fz (Le.add _ _) (Fz.add s)
theorem ev_lenOwN {g:Gh} {l:List α} {v:Value} {c:Hl} {T E:TypeId} {x:Operand} (h:OwnN g l v c) (hx:Bn e x=some v) (hT:P.underlying T=some (.slice E)) :
  Ev P n e C (.call { callee:=.builtin .len,args:=#[x],argTypes:=#[T] }) (.int .i64 l.length):=by
 obtain ⟨rl,ca,ks,h1,h2,h3,_⟩:=h;rw [← h3];exact Lx h1 hx hT
set_option linter.unusedVariables false in omit [Rep α] [ORep α] in
theorem at_len {β:Type} {l:List α} {rl:List β} {i:Int} {x:α} (hl:rl.length=l.length) (h:at? l i=some x):∃ y,at? rl i=some y:=by
 obtain ⟨h0,h1,_⟩:=Mk h;exact ⟨rl[i.toNat],by unfold at?;rw [Ad h0];exact A3 (by omega)⟩
theorem Xd {g:Gh} {l:List α} {v:Value} {c:Hl} {i:Int} {z:α} {T E:TypeId} {x y:Operand} {k:IntKind} (hr:OwnN g l v c) (hi:at? l i=some z) (hT:P.underlying T=some (.slice E)) (hz:(P.info? E).map (·.size)=some (Rep.n α))
  (hx:Bn e x=some v) (hy:Bn e y=some (.int k i)):Ev P n e C (.indexAddr T x y) (Eq v i (Rep.n α)):=by
 obtain ⟨rl,ca,ks,h1,h2,h3,_⟩:=hr;obtain ⟨r,hr⟩:=at_len h3 hi;exact Mn (α:=Raw (Rep.n α)) h1 hr hT hz hx hy
theorem ev_idxH {g:Gh} {l:List α} {v:Value} {j:Int} {cs:List Value} {ca cr:Hl} {i:Int} {z:α} {T E:TypeId} {x y:Operand} {k:IntKind} (hr:HoleN g l v j cs ca cr) (hi:at? l i=some z) (hT:P.underlying T=some (.slice E)) (hz:(P.info? E).map (·.size)=some (Rep.n α))
  (hx:Bn e x=some v) (hy:Bn e y=some (.int k i)):Ev P n e C (.indexAddr T x y) (Eq v i (Rep.n α)):=by
 obtain ⟨_,rl,ks,r,h1,h2,h3,_⟩:=hr;obtain ⟨r,hr⟩:=at_len h3 hi;exact Mn (α:=Raw (Rep.n α)) h1 hr hT hz hx hy
theorem Ql {g:Gh} {l:List α} {v:Value} {c:Hl} {i:Int} {x:α} (hr:OwnN g l v c) (hi:at? l i=some x):∃ a,Eq v i (Rep.n α)=.pointer (some a):=by
 obtain ⟨rl,ca,ks,h1,h2,h3,_⟩:=hr;obtain ⟨r,hr⟩:=at_len h3 hi;exact Us (α:=Raw (Rep.n α)) h1 hr
theorem Tm {g:Gh} {l:List α} {v:Value} {cs:List Value} {ca cr:Hl} {i:Int} (hr:HoleN g l v i cs ca cr):∃ a,Eq v i (Rep.n α)=.pointer (some a):=by
 obtain ⟨_,rl,ks,r,h1,h2,h3,h4,h5,h6,_⟩:=hr;exact Us (α:=Raw (Rep.n α)) h1 h6
theorem Ym:∀ (ks:List Hl) (i:Nat) (h:i < ks.length),ks.flatten.Perm (ks[i]++(ks.set i []).flatten)
 | k::ks,0,_=>by simp
 | k::ks,i+1,h=>by
  have h':i < ks.length:=by simpa using h
  have:=Ym ks i h';simp only [List.flatten_cons,Hd,List.set_cons_succ];refine (Ee k this).trans ?_;rw [← Am,← Am];exact E2 _ E5
theorem OwnN.hole {g:Gh} {l:List α} {v:Value} {c:Hl} {i:Int} {x:α} (h:OwnN g l v c) (hi:at? l i=some x) :
  ∃ cs ca cr ci,HoleN g l v i cs ca cr∧ORep.orep g x cs ci∧c.Perm (ca++(cr++ci)):=by
 obtain ⟨rl,ca,ks,h1,h2,h3,h4,h5⟩:=h;obtain ⟨h0,hlt,hx⟩:=Mk hi;obtain ⟨r,hr⟩:=at_len h3 hi;obtain ⟨_,hlt1,hr1⟩:=Mk hr;have hlt2:i.toNat < ks.length:=by omega
 refine ⟨r.cs,ca,(ks.set i.toNat []).flatten,ks[i.toNat],⟨h0,rl,ks.set i.toNat [],r,h1,Ko _,h3,by simpa using h4,hlt,hr,rfl,by simp [hlt2],?_⟩,?_,?_⟩
 ·intro j a b c d;have hc:j < ks.length:=by simpa using c
  have:(ks.set i.toNat [])[j]=ks[j]:=List.getElem_set_ne (Ne.symm d) _;rw [this];exact h5 j a b hc
 ·have:=h5 i.toNat hlt hlt1 hlt2;rw [hx,hr1] at this;exact this
 ·refine h2.trans (Ee _ ?_);exact (Ym ks i.toNat hlt2).trans E5
theorem HoleN.shut {g:Gh} {l:List α} {v:Value} {i:Int} {cs:List Value} {ca cr ci:Hl} {z:α} (h:HoleN g l v i cs ca cr) (hz:ORep.orep g z cs ci):OwnN g (l.set i.toNat z) v (ca++(cr++ci)):=by
 obtain ⟨h0,rl,ks,r,h1,h2,h3,h4,h5,h6,h7,h8,h9⟩:=h;subst h7;have hlt2:i.toNat < ks.length:=by omega
 obtain ⟨_,hlt1,hr1⟩:=Mk h6;refine ⟨rl,ca,ks.set i.toNat ci,h1,Ee _ ?_,by simpa using h3,by simpa using h4,?_⟩
 ·have e1:=Ym (ks.set i.toNat ci) i.toNat (by simpa using hlt2)
  simp only [List.getElem_set_self,List.set_set] at e1
  have e2:ks.set i.toNat []=ks:=by
   apply List.ext_getElem?;intro j;by_cases hj:i.toNat=j
   ·subst hj;rw [List.getElem?_set_self hlt2,h8]
   ·rw [List.getElem?_set_ne hj]
  rw [e2] at e1;exact (E2 _ h2).trans (List.perm_append_comm.trans e1.symm)
 ·intro j a b c;have hj:j < l.length:=by simpa using a
  by_cases hji:j=i.toNat
  ·subst hji;simp only [List.getElem_set_self];rw [hr1];exact hz
  ·rw [List.getElem_set_ne (Ne.symm hji),List.getElem_set_ne (Ne.symm hji)];exact h9 j hj b (by simpa using c) hji
theorem HoleN.shut0 {g:Gh} {l:List α} {v:Value} {i:Int} {cs:List Value} {ca cr ci:Hl} {z:α} (h:HoleN g l v i cs ca cr) (hi:at? l i=some z) (hz:ORep.orep g z cs ci):OwnN g l v (ca++(cr++ci)):=by
 have:=h.shut hz;obtain ⟨h0,hlt,hx⟩:=Mk hi
 rwa [← hx,List.set_getElem_self] at this
theorem HoleN.ptr {g:Gh} {l:List α} {v:Value} {i:Int} {cs:List Value} {ca cr:Hl} (h:HoleN g l v i cs ca cr) (cks:List Hl) (fr:Hl) (k:Nat) (hk:cks[k]? = some ca):∀ w,St g cks fr w→PtrW w (Eq v i (Rep.n α)) cs:=by
 obtain ⟨h0,rl,ks,r,h1,h2,h3,h4,h5,h6,h7,h8,h9⟩:=h;subst h7;obtain ⟨cs,hcs,hp⟩:=Vj h1 h6;have:cs=r.cs:=hcs;subst this;exact hp cks fr k hk
theorem Zg {ops:Array Oper} {rest:List Oper} {o:Oper} {Q:Exit→Act→World→Prop} {a:Act} {w:World} {g:Gh} {cks:List Hl} {fr:Hl} {T:TypeId} {x y:Operand} {k:Nat} {u pv:Value} {us cs cs':List Value} {l:List α} {v:Value} {ca cr:Hl} {i:Int} (off:Nat)
  (hg:Region.wanted o (yielded ops a.tmps)=true) (ho:o.op=.store T x y) (F:Fr n a e) (S:St g cks fr w) (h:HoleN g l v i cs ca cr) (hpv:N8 (Eq v i (Rep.n α)) off=pv)
  (hx:Bn e x=some pv) (hy:Bn e y=some u) (hul:u.cells.toList=us) (hz:(P.info? T).map (·.size)=some us.length) (h1:∀ q∈us,Tq q=true)
  (hk:cks[k]? = some ca) (hl:off+us.length≤Rep.n α) (hc':cs.take off++us++cs.drop (off+us.length)=cs') (hd:o.dst=Option.none)
  (K:∀ c' w',HoleN g l v i cs' c' cr→St g (cks.set k c') fr w'→wpListIn (RW ρ) 0 P ops Q rest a w'):wpListIn (RW ρ) 0 P ops Q (o::rest) a w:=by
 obtain ⟨h0,rl,ks,r,h1',h2,h3,h4,h5,h6,h7,h8,h9⟩:=h;subst h7;have hlen:=r.len
 let r':Raw (Rep.n α):=⟨r.cs.take off++us++r.cs.drop (off+us.length),by simp;omega,by
  intro q hq;simp only [Az] at hq;rcases hq with (hq | hq) | hq
  ·exact r.one q (C4 hq)
  ·exact h1 q hq
  ·exact r.one q (Eo hq)⟩
 refine wl_storeE (α:=Raw (Rep.n α)) (z':=r') off hg ho F S h1' h6 hpv hx hy hul hz h1 hk hl (fun cs h=>by
  have:cs=r.cs:=h;subst this;rfl) hd ?_
 intro c' w' ho' S';obtain ⟨_,hlt1,hr1⟩:=Mk h6;refine K c' w' ⟨h0,rl.set i.toNat r',ks,r',ho',h2,by simpa using h3,h4,h5,at_set' h6,hc',h8,?_⟩ S'
 intro j a b c d;rw [List.getElem_set_ne (Ne.symm d)];exact h9 j a (by simpa using b) c d
 where
 at_set' {l:List (Raw (Rep.n α))} {i:Int} {x z:Raw (Rep.n α)} (h:at? l i=some x):at? (l.set i.toNat z) i=some z:=by
  obtain ⟨h0,hlt,_⟩:=Mk h;unfold at?;rw [Ad h0,List.getElem?_set_self hlt]
set_option linter.unusedVariables false in omit [Rep α] [ORep α] in
theorem getElem_app {β:Type} {xs ys:List β} {i:Nat} (h:i < (xs++ys).length):(xs++ys)[i]=if h':i < xs.length then xs[i] else ys[i - xs.length]'(by simp at h;omega):=by
 split
 ·exact Gb ..
 ·exact Hw (by omega)
theorem Zu {ops:Array Oper} {rest:List Oper} {o:Oper} {Q:Exit→Act→World→Prop} {a:Act} {w:World} {g:Gh} {cks:List Hl} {fr:Hl} {T T' E E':TypeId} {x y:Operand} {d bytes:Nat} {z v u:Value} {c c2:Hl} {l r l':List α}
  (hg:Region.wanted o (yielded ops a.tmps)=true) (ho:o.op=.call { callee:=.builtin .append,args:=#[x,y],argTypes:=#[T,T'] }) (hT:P.underlying T=some (.slice E)) (hT':P.underlying T'=some (.slice E')) (hE:ElemT P E (Rep.n α) bytes z) (hbz:bytes≤1000000) (hbp:0 < bytes)
  (F:Fr n a e) (S:St g (c::c2::cks) fr w) (hx:Bn e x=some v) (hy:Bn e y=some u) (ho1:OwnN g l v c) (ho2:OwnN g r u c2) (hl':app? bytes l r=some l') (hd:o.dst=some d) (hn:Nat.blt d n.sz=true)
  (K:∀ v' c' a' w',OwnN g l' v' c'→St g (c'::cks) fr w'→Fr n a' ((d,v')::e)→wpListIn (RW ρ) 0 P ops Q rest a' w'):wpListIn (RW ρ) 0 P ops Q (o::rest) a w:=by
 obtain ⟨hroom,rfl⟩:=app?_some hl';obtain ⟨rl,ca,ks,h1,h2,h3,h4,h5⟩:=ho1;obtain ⟨rl2,ca2,ks2,k1,k2,k3,k4,k5⟩:=ho2
 have S2:St g (ca::ks.flatten::ca2::ks2.flatten::cks) fr w:=by
  refine St0.perm S ?_;simp only [fl];refine ((List.Perm.append h2 (E2 _ k2))).trans (.of_eq ?_);simp only [Am]
 obtain ⟨cs,hcat,hrd⟩:=k1.reads;refine Lk (α:=Raw (Rep.n α)) (r:=rl2) (l':=rl++rl2) hg ho hT hT' hE hbz hbp F S2 hx hy (k:=0) rfl h1 hcat rfl (hrd _ _ _ 2 rfl S2) (by unfold app?;rw [Ad (by rw [h3,k3];exact hroom)]) hd hn ?_
 intro v' c' a' w' ho' S' F';refine K v' (c'++(ks.flatten++ks2.flatten)) a' w' ?_ ?_ F'
 ·refine ⟨rl++rl2,c',ks++ks2,ho',by simp,by simp [h3,k3],by simp [h4,k4],?_⟩
  intro i a b c;rw [getElem_app,getElem_app,getElem_app];by_cases hi:i < l.length
  ·simp only [dif_pos hi,dif_pos (show i < rl.length from by omega),dif_pos (show i < ks.length from by omega)]
   exact h5 i hi _ _
  ·simp only [dif_neg hi,dif_neg (show ¬ i < rl.length from by omega),dif_neg (show ¬ i < ks.length from by omega)]
   simp at a;have:=k5 (i - l.length) (by omega) (by omega) (by omega)
   simp only [h3,h4];exact this
 ·have S3:St g (c'::ks.flatten::[]::ks2.flatten::cks) fr w':=St.lose 2 S';refine St0.of_eq S3 ?_;simp [fl]
theorem OwnN.of_lit {g:Gh} {l:List α} {rl:List (Raw (Rep.n α))} {v:Value} {ca:Hl} {ks:List Hl} (h:OwnS g rl v ca) (h3:rl.length=l.length) (h4:ks.length=l.length)
  (h5:∀ i (h:i < l.length) (h1:i < rl.length) (h2:i < ks.length),ORep.orep g l[i] rl[i].cs ks[i]):OwnN g l v (ca++ks.flatten):=⟨rl,ca,ks,h,Ko _,h3,h4,h5⟩
theorem wl_lit1N {ops:Array Oper} {rest:List Oper} {o:Oper} {Q:Exit→Act→World→Prop} {a:Act} {w:World} {g:Gh} {cks:List Hl} {fr:Hl} {T E:TypeId} {x:Operand} {u:Value} {cs:List Value} {d b:Nat} {z:Value} {p:α} {ci:Hl}
  (hg:Region.wanted o (yielded ops a.tmps)=true) (ho:o.op=.buildSlice T 1 [(0,x)].toArray) (hx:Bn e x=some u) (hT:P.underlying T=some (.slice E)) (hE:ElemT P E (Rep.n α) b z)
  (hv:u.cells.size=Rep.n α) (hl:Nat.ble (1 * Rep.n α) 16777216=true) (hcs:u.cells.toList=cs) (hp:ORep.orep g p cs ci) (F:Fr n a e) (S:St g (ci::cks) fr w) (hd:o.dst=some d) (hn:Nat.blt d n.sz=true)
  (K:∀ v c a' w',OwnN g [p] v c→Fr n a' ((d,v)::e)→St g (c::cks) fr w'→wpListIn (RW ρ) 0 P ops Q rest a' w'):wpListIn (RW ρ) 0 P ops Q (o::rest) a w:=by
 have hcat:Cat g [rawOf hp] cs:=by
  have:=Cat.single (α:=Raw (Rep.n α)) (g:=g) (x:=rawOf hp) (cs:=cs) rfl;exact this
 refine Og (α:=Raw (Rep.n α)) (l:=[rawOf hp]) (vs:=[u]) (parts:=[(0,x)]) hg ho rfl (by simp [Q7,hx]) hT hE (Mv hv Oj) hl hcat (by simp [Ku,hcs]) rfl F S hd hn ?_
 intro v c a' w' h F' S';refine K v (c++ci) a' w' ?_ F' ?_
 ·have:=OwnN.of_lit (l:=[p]) (rl:=[rawOf hp]) (ks:=[ci]) h rfl rfl (by
   intro i a b c;simp at a;subst a;exact hp)
  simpa using this
 ·refine St0.of_eq S' ?_;simp [fl]
theorem wl_makeN {ops:Array Oper} {rest:List Oper} {o:Oper} {Q:Exit→Act→World→Prop} {a:Act} {w:World} {g:Gh} {cks:List Hl} {fr:Hl} {T E:TypeId} {x:Operand} {d b:Nat} {m:Int} {z:Value} {x0:α} {l:List α}
  (hg:Region.wanted o (yielded ops a.tmps)=true) (ho:o.op=.makeSlice T x x) (hT:P.underlying T=some (.slice E)) (hE:ElemT P E (Rep.n α) b z) (hz:∀ g,ORep.orep g x0 z.cells.toList []) (hx:Bn e x=some (.int .i64 m)) (hl:mk? b m x0=some l) (hb:0 < b)
  (F:Fr n a e) (S:St g cks fr w) (hd:o.dst=some d) (hn:Nat.blt d n.sz=true)
  (K:∀ v c a' w',OwnN g l v c→Fr n a' ((d,v)::e)→St g (c::cks) fr w'→wpListIn (RW ρ) 0 P ops Q rest a' w'):wpListIn (RW ρ) 0 P ops Q (o::rest) a w:=by
 unfold mk? at hl;split at hl
 case isFalse=>cases hl
 rename_i hm
 cases hl;refine Zb (α:=Raw (Rep.n α)) (x0:=rawOf (hz g)) (l:=List.replicate m.toNat (rawOf (hz g))) hg ho hT hE (fun _=>rfl) hx (by unfold mk?;rw [Ad hm]) hb F S hd hn ?_
 intro v c a' w' h F' S';refine K v c a' w' ⟨_,c,List.replicate m.toNat [],h,by simp,by simp,by simp,?_⟩ F' S'
 intro i a b c;simp only [List.getElem_replicate];exact hz g
theorem St.split3 {g:Gh} {c ca cr ci:Hl} {cks:List Hl} {fr:Hl} {w:World} (p:c.Perm (ca++(cr++ci))) (S:St g (c::cks) fr w):St g (ca::cr::ci::cks) fr w:=by
 refine St0.perm S ?_;simp only [fl];refine (E2 _ p).trans (.of_eq ?_);simp only [Am]
end
theorem sub_skip {d:Nat} {v:Value}:∀ {e:List (Nat×Value)} {e':List (Nat×Value)},Sub e e'→∀ t u,Kf ((d,v)::e') t=some u→Kf ((d,v)::e) t=some u:=by
 intro e e' h t u ht;simp only [Kf] at ht ⊢;cases hb:Nat.beq d t with
 | true=>rw [hb] at ht;simpa using ht
 | false=>rw [hb] at ht;exact h.look t u ht
theorem Fr.sub' {a:Act} {d:Nat} {v:Value} {e e':List (Nat×Value)} (F:Fr n a ((d,v)::e)) (h:Sub e e'):Fr n a ((d,v)::e'):=⟨F.sz,F.df,fun t u ht=>F.get t u (sub_skip h t u ht)⟩
theorem Wv {ops:Array Oper} {rest:List Oper} {o:Oper} {Q:Exit→Act→World→Prop} {a:Act} {w:World} {f:Operand} {fn:FuncId} {cap:List Value} {xs:List Operand} {vs:List Value} {A:Array TypeId} {d:Nat} {e':List (Nat×Value)}
  (hg:Region.wanted o (yielded ops a.tmps)=true) (ho:o.op=.call { callee:=.value f,args:=xs.toArray,argTypes:=A }) (hsub:Sub e e') (F:Fr n a e) (hf:Bn e f=some (.func (.func fn) #[] cap.toArray)) (hxs:xs.map (Bn e)=vs.map some)
  (hent:∀ args w,(callFunc fn args).run P w=.ok (.enter fn args) w) (hd:o.dst=some d) (hn:Nat.blt d n.sz=true)
  (hc:Calls P fn (vs++cap).toArray w (fun en w'=>∃ v,en=.returned v∧∀ a',Fr n a' ((d,v)::e')→wpListIn (RW ρ) 0 P ops Q rest a' w')):wpListIn (RW ρ) 0 P ops Q (o::rest) a w :=
 wl_call (R:=fun v w'=>∀ a',Fr n a' ((d,v)::e')→wpListIn (RW ρ) 0 P ops Q rest a' w') hg ho F hf hxs hent hc hd hn fun _ a' _ h F'=>h a' (F'.sub' hsub)
end Go.Dc
