import Derived.Test.YtkcnbopeghkdlaaGreatDoorDcH
import Derived.ProofKit
import Derived.Below
import Derived.Deep.Slices
namespace Go.Dc
open Go
variable {P : Program}
def Gh.of (w:World):Gh:={ snap:=fun b=>w.heap[b]?,os:=w.os,out:=w.output,tape:=w.tape,dr:=w.drawn }
theorem St.of (w:World):St (Gh.of w) [] [] w where
 snap:=fun _ _ h=>h
 own:=fun p h=>by cases h
 nd:=List.nodup_nil
 os:=rfl
 out:=rfl
 tape:=rfl
 dr:=C8 _
theorem below_of {w w':World} {g:Gh} {cs:List Hl} {fr:Hl} (l:Le (Gh.of w) g) (S:St g cs fr w'):RowKit.Below w.heap.size w w' where
 os:=S.os.trans l.os
 tape:=S.tape.trans l.tape
 output:=S.out.trans l.out
 size:=by
  rcases Nat.eq_zero_or_pos w.heap.size with h | h
  ·omega
  ·have hb:w.heap[w.heap.size - 1]? = some (w.heap[w.heap.size - 1]'(by omega)):=Array.getElem?_eq_getElem (by omega)
   have:=T4 (S.snap _ _ (l.snap _ _ hb));omega
 block:=by
  intro k hk;have hb:w.heap[k]? = some w.heap[k]:=Array.getElem?_eq_getElem hk;rw [hb];exact S.snap _ _ (l.snap _ _ hb)
class Msr (α:Type) where
 m:α→Nat
instance:Msr Int:=⟨fun _=>1⟩
instance:Msr UInt8:=⟨fun _=>1⟩
instance:Msr Bool:=⟨fun _=>1⟩
instance:Msr ByteArray:=⟨fun s=>s.size+1⟩
def msum {α:Type} [Msr α]:List α→Nat
 | []=>0
 | x::r=>Msr.m x+msum r
instance {α:Type} [Msr α]:Msr (List α):=⟨fun l=>msum l+1⟩
structure Blk {H:Type} (B:DataW H→Nat) (BA:List (DataW H)→Nat):Prop where
 one:∀ d,1≤B d
 str:∀ b,b.length+1≤B (.lit (.string b))
 slice:∀ l r,BA l+1≤B (.slice l r)
 agg:∀ l,BA l+1≤B (.agg l)
 cons:∀ d r,B d+BA r≤BA (d::r)
theorem Blk.all {H:Type} {B:DataW H→Nat} {BA:List (DataW H)→Nat} (hB:Blk B BA) {α:Type} [Msr α]:∀ (l:List α) (ds:List (DataW H)),l.length=ds.length→(∀ i (h:i < l.length) (h':i < ds.length),Msr.m l[i]≤B ds[i])→msum l≤BA ds
 | [],[],_,_=>Dh _
 | x::l,d::ds,h,he=>by
  have h1:=he 0 (by simp) (by simp)
  have h2:=Blk.all hB l ds (by simpa using h) (fun i hi hi'=>he (i+1) (by simpa using hi) (by simpa using hi'))
  have h3:=hB.cons d ds;simp only [List.getElem_cons_zero] at h1;simp only [msum];omega
 | [],_::_,h,_=>by simp at h
 | _::_,[],h,_=>by simp at h
def Vo (P:Program) (T:TypeId) (α:Type) [Rep α] [Msr α] (Ok:α→Prop):Prop :=
 ∀ (H:Type) (enc:TypeId×Value→H) (w:World) (fuel:Nat) (cs:List Value) (x:DataW H×List MemPlace),DataW.trod enc P w 0 (fun _=>true) true fuel T cs=some x →
  ∃ d:α,Rep.rep (Gh.of w) d cs∧Ok d∧∀ (B:DataW H→Nat) (BA:List (DataW H)→Nat),Blk B BA→Msr.m d≤B x.1
theorem Q5 {T:TypeId} (h:P.underlying T=some (.int .i64)):Vo P T Int (fun x=>-9223372036854775808≤x∧x≤9223372036854775807):=by
 intro H enc w fuel cs x ht;obtain ⟨m,rfl,_,hw⟩:=DataW.trod_int h ht;refine ⟨m,rfl,?_,fun B BA hB=>hB.one _⟩;simp [Lit.wf,IntKind.min,IntKind.max,IntKind.bits,IntKind.signed] at hw;omega
theorem read_str {T:TypeId} (h:P.underlying T=some .string):Vo P T ByteArray (fun s=>s.size≤9223372036854775807):=by
 intro H enc w fuel cs x ht;obtain ⟨m,rfl,rfl,hm⟩:=DataW.trod_string h ht
 exact ⟨m,rfl,by unfold maxLen at hm;omega,fun B BA hB=>by
  have:=hB.str m.data.toList;rw [Array.length_toList] at this;exact this⟩
theorem cells_some {w:World} {a:Addr} {n:Nat} {cs:List Value} (h:w.cells? 0 a n=some cs):cs.length=n∧∀ i,i < n→w.cell? (a.add i)=cs[i]?:=by
 unfold World.cells? at h;rw [Af (Dh _)] at h
 have key:∀ (l:List Nat) (cs:List Value),l.mapM (fun i=>w.cell? (a.add i))=some cs→cs.length=l.length∧∀ k (hk:k < l.length),w.cell? (a.add l[k])=cs[k]?:=by
  intro l
  induction l with
  | nil=>intro cs h;simp at h;subst h;exact ⟨rfl,fun k hk=>by simp at hk⟩
  | cons x r ih =>
   intro cs h;rw [List.mapM_cons] at h;cases hx:w.cell? (a.add x) with
   | none=>rw [hx] at h;simp at h
   | some v =>
    rw [hx] at h;cases hr:r.mapM (fun i=>w.cell? (a.add i)) with
    | none=>rw [hr] at h;simp at h
    | some vs =>
     rw [hr] at h;simp at h;subst h;obtain ⟨h1,h2⟩:=ih vs hr;refine ⟨by simp [h1],fun k hk=>?_⟩
     cases k with
     | zero=>simpa using hx
     | succ k=>simpa using h2 k (by simpa using hk)
 obtain ⟨h1,h2⟩:=key _ cs h;rw [List.length_range] at h1;exact ⟨h1,fun i hi=>by have:=h2 i (by simpa using hi);simpa using this⟩
theorem N4 {T E:TypeId} {α:Type} [Rep α] [Msr α] {Ok:α→Prop} (h:P.underlying T=some (.slice E)) (hc:P.cellsOf E=Rep.n α) (hn:0 < Rep.n α) (hr:Vo P E α Ok) :
  Vo P T (List α) (fun l=>l.length≤9223372036854775807∧∀ x∈l,Ok x):=by
 intro H enc w fuel cs x ht;rcases Deep.open_slice h ht with ⟨rfl,_⟩ | ⟨a,len,cap,m,n,D,Pl,rfl,_,hlc,hcm,hm,hx1,hel⟩
 ·exact ⟨[],⟨_,rfl,RepSl.nil _⟩,⟨by simp,by simp⟩,fun B BA hB=>hB.one _⟩
 ·simp only [G0] at hm;subst hm
  have hex:∀ i,i < len→∃ d:α,(∃ ec,w.cells? 0 (a.add (i * Rep.n α)) (Rep.n α)=some ec∧Rep.rep (Gh.of w) d ec)∧Ok d∧∀ (B:DataW H→Nat) (BA:List (DataW H)→Nat),Blk B BA→Msr.m d≤B (D i):=by
   intro i hi;obtain ⟨ec,h1,h2⟩:=hel i (by omega)
   obtain ⟨d,h3,h4,h5⟩:=hr H enc w n ec _ h2;rw [hc] at h1;exact ⟨d,⟨ec,h1,h3⟩,h4,h5⟩
  obtain ⟨l,hl,hl2⟩:∃ l:List α,l.length=len∧∀ i (hi:i < l.length),(∃ ec,w.cells? 0 (a.add (i * Rep.n α)) (Rep.n α)=some ec∧Rep.rep (Gh.of w) l[i] ec)∧Ok l[i]∧∀ (B:DataW H→Nat) (BA:List (DataW H)→Nat),Blk B BA→Msr.m l[i]≤B (D i):=by
   have key:∀ k,k≤len→∃ l:List α,l.length=k∧∀ i (hi:i < l.length),(∃ ec,w.cells? 0 (a.add (i * Rep.n α)) (Rep.n α)=some ec∧Rep.rep (Gh.of w) l[i] ec)∧Ok l[i]∧∀ (B:DataW H→Nat) (BA:List (DataW H)→Nat),Blk B BA→Msr.m l[i]≤B (D i):=by
    intro k
    induction k with
    | zero=>intro _;exact ⟨[],rfl,fun i hi=>by simp at hi⟩
    | succ k ih =>
    intro hk;obtain ⟨l,h1,h2⟩:=ih (by omega)
    obtain ⟨d,hd⟩:=hex k (by omega)
    refine ⟨l++[d],by simp [h1],fun i hi=>?_⟩
    by_cases hik:i < l.length
    ·simp only [Hh hik];exact h2 i hik
    ·have hi2:i=k:=by simp at hi;omega
     subst hi2;simp only [Hc (show l.length≤i by omega),h1,Nd,List.getElem_cons_zero]
     exact hd
   exact key len (C8 _)
  refine ⟨l,⟨_,rfl,?_⟩,⟨by unfold maxLen at hcm;omega,?_⟩,?_⟩
  ·rcases Nat.eq_zero_or_pos len with h0 | h0
   ·subst h0;have:l=[]:=Ec hl;subst this;exact .inl ⟨rfl,_,_,rfl⟩
   ·
    obtain ⟨b,off,spot⟩:=a;obtain ⟨⟨ec,h1,_⟩,_⟩:=hl2 0 (by omega)
    obtain ⟨h2,h3⟩:=cells_some h1;have h4:=h3 0 hn;rw [Bb (by omega)] at h4
    have hsp:spot=Option.none:=by
     simp only [Nat.zero_mul,Addr.add,G0,World.cell?] at h4;split at h4
     ·cases spot with
      | none=>rfl
      | some s=>simp at h4
     ·cases h4
    subst hsp
    have hblk:∃ c t fz,w.heap[b]? = some (.cells c t fz):=by
     simp only [Nat.zero_mul,Addr.add,G0,World.cell?] at h4;split at h4
     ·rename_i c t fz hh;exact ⟨c,t,fz,hh⟩
     ·cases h4
    obtain ⟨c,t,fz,hb⟩:=hblk
    have hcell:∀ i (hi:i < l.length),∃ ec,ec.length=Rep.n α∧Rep.rep (Gh.of w) l[i] ec∧∀ j,j < Rep.n α→c[off+i * Rep.n α+j]? = ec[j]?:=by
     intro i hi;obtain ⟨⟨ec,h5,h6⟩,_⟩:=hl2 i hi;obtain ⟨h7,h8⟩:=cells_some h5;refine ⟨ec,h7,h6,fun j hj=>?_⟩;have:=h8 j hj;rw [O9,O9,cell_at hb] at this;exact this
    have hsz:off+l.length * Rep.n α≤c.size:=by
     obtain ⟨ec,h5,_,h7⟩:=hcell (l.length - 1) (by omega)
     have h8:=h7 (Rep.n α - 1) (by omega)
     rw [Bb (by omega)] at h8
     have h9:off+(l.length - 1) * Rep.n α+(Rep.n α - 1) < c.size:=by
      rcases Es (off+(l.length - 1) * Rep.n α+(Rep.n α - 1)) c.size with h | h
      ·exact h
      ·rw [Array.getElem?_eq_none h] at h8;cases h8
     have:(l.length - 1) * Rep.n α+Rep.n α=l.length * Rep.n α:=by
      rw [← Nat.succ_mul];congr 1;omega
     omega
    refine .inr ⟨b,off,m,c,t,fz,by rw [hl],by omega,hb,hsz,fun i hi=>?_⟩
    obtain ⟨ec,h5,h6,h7⟩:=hcell i hi
    have:(c.toList.drop (off+i * Rep.n α)).take (Rep.n α)=ec:=by
     apply List.ext_getElem?;intro j;rw [List.getElem?_take];split
     ·rename_i hj
      rw [List.getElem?_drop,Array.getElem?_toList,h7 j hj]
     ·rename_i hj
      rw [List.getElem?_eq_none (by omega)]
    rw [this];exact h6
  ·intro x hx;obtain ⟨i,hi,rfl⟩:=Cd hx;exact (hl2 i hi).2.1
  ·intro B BA hB;rw [hx1];have h1:=fun R=>hB.slice ((List.range len).map D) R
   have h2:=hB.all l ((List.range len).map D) (by simp [hl]) (fun i hi hi'=>by
    simp only [List.getElem_map,List.getElem_range];exact (hl2 i hi).2.2 B BA hB)
   show msum l+1≤_;refine Ck ?_ (h1 _);omega
theorem Wd {H:Type} {enc:TypeId×Value→H} {w:World} {fuel:Nat} {T:TypeId} {cs:List Value} {x:DataW H×List MemPlace} {fs:Array Field} (h:P.underlying T=some (.struct fs))
  (ht:DataW.trod enc P w 0 (fun _=>true) true fuel T cs=some x):cs.length=P.cellsOf T∧∃ n,∃ ys:List (DataW H×List MemPlace),x.1=.agg (ys.map (·.1))∧ys.length=fs.size∧∀ (i:Nat) (off:Nat) (ft:TypeId),(fs[i]?).map (fun f=>(f.offset,f.type))=some (off,ft)→∃ y,ys[i]? = some y∧DataW.trod enc P w 0 (fun _=>true) true n ft ((cs.drop off).take (P.cellsOf ft))=some y:=by
 cases fuel with
 | zero=>simp [DataW.trod] at ht
 | succ n =>
  have key:∀ (l:List Field) (ys:List (DataW H×List MemPlace)),l.mapM (fun f=>DataW.trod enc P w 0 (fun _=>true) true n f.type ((cs.drop f.offset).take (P.cellsOf f.type)))=some ys→ys.length=l.length∧∀ (i:Nat) (f:Field),l[i]? = some f→∃ y,ys[i]? = some y∧DataW.trod enc P w 0 (fun _=>true) true n f.type ((cs.drop f.offset).take (P.cellsOf f.type))=some y:=by
   intro l
   induction l with
   | nil=>intro ys h;simp at h;subst h;exact ⟨rfl,fun i f hf=>by simp at hf⟩
   | cons q r ih =>
    intro ys h;rw [List.mapM_cons] at h;cases hq:DataW.trod enc P w 0 (fun _=>true) true n q.type ((cs.drop q.offset).take (P.cellsOf q.type)) with
    | none=>rw [hq] at h;simp at h
    | some y =>
     rw [hq] at h;cases hr:r.mapM (fun f=>DataW.trod enc P w 0 (fun _=>true) true n f.type ((cs.drop f.offset).take (P.cellsOf f.type))) with
     | none=>rw [hr] at h;simp at h
     | some vs =>
      rw [hr] at h;simp at h;subst h;obtain ⟨h1,h2⟩:=ih vs hr;refine ⟨by simp [h1],fun i f hf=>?_⟩
      cases i with
      | zero=>simp at hf;subst hf;exact ⟨y,rfl,hq⟩
      | succ i=>simpa using h2 i f (by simpa using hf)
  unfold DataW.trod at ht;rw [h] at ht;simp only at ht;split at ht
  ·rename_i hlen
   cases hm:(fs.toList.mapM fun f=>DataW.trod enc P w 0 (fun _=>true) true n f.type ((cs.drop f.offset).take (P.cellsOf f.type))) with
   | none=>rw [hm] at ht;simp at ht
   | some ys =>
    rw [hm] at ht;simp at ht;obtain ⟨h1,h2⟩:=key _ ys hm;refine ⟨hlen,n,ys,by rw [← ht],by simpa using h1,fun i off ft hi=>?_⟩
    cases hfi:fs[i]? with
    | none=>rw [hfi] at hi;cases hi
    | some f =>
     rw [hfi] at hi;simp at hi;obtain ⟨rfl,rfl⟩:=hi;exact h2 i f (by simpa using hfi)
  ·cases ht
theorem Blk.at {H:Type} {B:DataW H→Nat} {BA:List (DataW H)→Nat} (hB:Blk B BA):∀ {ys:List (DataW H×List MemPlace)} {i:Nat} {y:DataW H×List MemPlace},ys[i]? = some y→B y.1≤BA (ys.map (·.1))
 | x::ys,0,y,h=>by
  simp at h;subst h;have:=hB.cons x.1 (ys.map (·.1));simp only [Eb];omega
 | x::ys,i+1,y,h=>by
  have h1:=Blk.at hB (ys:=ys) (i:=i) (y:=y) (by simpa using h)
  have:=hB.cons x.1 (ys.map (·.1));simp only [Eb];omega
 | [],_,_,h=>by simp at h
end Go.Dc
