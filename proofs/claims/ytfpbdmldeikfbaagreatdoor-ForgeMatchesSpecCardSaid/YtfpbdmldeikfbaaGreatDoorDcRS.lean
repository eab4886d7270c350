import Derived.Test.YtfpbdmldeikfbaaGreatDoorDcO
import Derived.Test.YtfpbdmldeikfbaaGreatDoorDcK
import Derived.Shelf.SlSortCmp.WholeK
import Derived.Shelf.SlSortCmp.NoneTotal
import Derived.Test.YtfpbdmldeikfbaaGreatDoorDcZN
import Derived.Shelf.SortM.Plain
import Derived.Shelf.SortM.SortNone
set_option linter.unusedSimpArgs false
set_option linter.unusedVariables false
namespace Go.Dc
open Go Go.Sort Go.Proofs
def ltM {δ:Type} (cm:δ→δ→Option Int) (x y:δ):Bool:=decide ((cm x y).getD 0 < 0)
structure CmpFit {δ:Type} (cm:δ→δ→Option Int) (l:List δ):Prop where
 some_:∀ x∈l,∀ y∈l,∃ r,cm x y=some r
 irrefl:∀ x∈l,ltM cm x x=false
 trans:∀ x∈l,∀ y∈l,∀ z∈l,ltM cm x y=true→ltM cm y z=true→ltM cm x z=true
 ntrans:∀ x∈l,∀ y∈l,∀ z∈l,ltM cm x y=false→ltM cm y z=false→ltM cm x z=false
 anti:∀ x∈l,∀ y∈l,ltM cm x y=false→ltM cm y x=false→x=y
noncomputable def sortM {δ:Type} (cm:δ→δ→Option Int) (l:List δ):Option (List δ) :=
 open Classical in if CmpFit cm l∧l.length < 4611686018427387904 then some (l.mergeSort fun x y=>!ltM cm y x) else Option.none
theorem sortM_some {δ:Type} {cm:δ→δ→Option Int} {l l':List δ} (h:sortM cm l=some l'):CmpFit cm l∧l.length < 4611686018427387904∧l'=l.mergeSort fun x y=>!ltM cm y x:=by
 unfold sortM at h;split at h
 ·rename_i h1;exact ⟨h1.1,h1.2,(Gg h).symm⟩
 ·cases h
theorem sortM_eq {δ:Type} {cm:δ→δ→Option Int} {l:List δ} (h:CmpFit cm l) (hl:l.length < 4611686018427387904):sortM cm l=some (l.mergeSort fun x y=>!ltM cm y x):=by
 unfold sortM;rw [Ad ⟨h,hl⟩]
theorem sortM_pw {δ:Type} {cm:δ→δ→Option Int} {l:List δ} (h:CmpFit cm l):(l.mergeSort fun x y=>!ltM cm y x).Pairwise fun x y=>ltM cm y x=false:=by
 have h1:=List.pairwise_mergeSort (le:=fun a b:{x // x∈l}=>!ltM cm b.1 a.1)
  (fun a b c h1 h2=>by simp only [Bool.not_eq_true'] at h1 h2 ⊢;exact h.ntrans _ c.2 _ b.2 _ a.2 h2 h1)
  (fun a b=>by
   cases h1:ltM cm b.1 a.1 with
   | false=>rfl
   | true =>
    cases h2:ltM cm a.1 b.1 with
    | false=>rfl
    | true=>have:=h.trans _ a.2 _ b.2 _ a.2 h2 h1;rw [h.irrefl _ a.2] at this;cases this)
  l.attach
 have h2:=List.map_mergeSort (r:=fun a b:{x // x∈l}=>!ltM cm b.1 a.1) (s:=fun x y=>!ltM cm y x) (f:=Subtype.val) (l:=l.attach) (fun _ _ _ _=>rfl);rw [List.attach_map_subtype_val] at h2;rw [← h2,List.pairwise_map];exact h1.imp (fun {a b} hab=>by simpa using hab)
theorem sortM_uniq {δ:Type} {cm:δ→δ→Option Int} {l l':List δ} (h:CmpFit cm l) (hp:l'.Perm l) (hs:l'.Pairwise fun x y=>ltM cm y x=false):l'=l.mergeSort fun x y=>!ltM cm y x:=by
 refine List.Perm.eq_of_pairwise (le:=fun x y=>ltM cm y x=false) ?_ hs (sortM_pw h) (hp.trans (List.mergeSort_perm _ _).symm);intro a b ha hb h1 h2;exact h.anti a (hp.mem_iff.1 ha) b ((List.mergeSort_perm _ _).mem_iff.1 hb) h2 h1
theorem St0.grown {g:Gh} {o:Hl} {w:World} (h:St0 g o w) (os:Array Obj):St0 g o (grow w os) where
 snap:=fun b x hb=>by
  have:=h.snap b x hb;show (w.heap++os)[b]? = some x;rw [Array.getElem?_append_left (U3 this)];exact this
 own:=fun p hp=>⟨by
  have:=(h.own p hp).1;show (w.heap++os)[p.1]? = some p.2;rw [Array.getElem?_append_left (U3 this)];exact this,(h.own p hp).2⟩
 nd:=h.nd
 os:=h.os
 out:=h.out
 tape:=h.tape
 dr:=h.dr
theorem oneC_cell' {v:Value} (h:Tq v=true):v.oneCell'=true:=by
 cases v <;> first | rfl | simp [Tq] at h
section
variable {δ : Type} [Rep δ]
abbrev Cel (g:Gh) (l:List δ):={p:δ×List Value // p.1∈l∧Rep.rep g p.1 p.2}
variable {P : Program} {ρ' : Go.Shelf.Ren}
theorem putRowK_heap {α:Type} [Inhabited α] (enc:α→List Value) (k:Nat) (w:World) (b:Nat) (d:Array α) {arr:Array Value} {t:TypeId} {fz:Nat×Nat} (hb:w.heap[b]? = some (.cells arr t fz)) :
  (putRowK enc k w b 0 d).heap[b]? = some (.cells (putCells id 0 (flatK enc k d) arr) t fz)∧∀ i,i≠b→(putRowK enc k w b 0 d).heap[i]? = w.heap[i]?:=by
 constructor
 ·simp [putRowK,putRow,mapBlock,Array.getElem?_modify,hb,onCells]
 ·intro i hi;simp [putRowK,putRow,mapBlock,Array.getElem?_modify,Ne.symm hi]
theorem drop_take_get {arr:Array Value} {i k:Nat} {cs:List Value} (hc:cs.length=k) (hs:i * k+k≤arr.size) (h:∀ c,c < k→arr[i * k+c]? = some cs[c]!):(arr.toList.drop (i * k)).take k=cs:=by
 refine List.ext_getElem? ?_;intro c;rw [List.getElem?_take,List.getElem?_drop];by_cases hck:c < k
 ·rw [Ad hck];have:=h c hck;rw [Array.getElem?_toList,this];rw [A3 (by omega),List.getElem!_eq_getElem?_getD,A3 (by omega)]
  rfl
 ·rw [Ac hck,List.getElem?_eq_none (by omega)]
set_option maxHeartbeats 1000000 in
theorem sort_ok (L:SlLaysF0.n6 P ρ') (aE:∀ w,(isAgg (ρ'.t 24)).run P w=.ok true w) (zE:∀ w,(Go.sizeOf (ρ'.t 24)).run P w=.ok (Rep.n δ) w)
  {gf:Nat} (eg:∀ args w,(callFunc gf args).run P w=.ok (.enter gf args) w) {cm:δ→δ→Option Int}
  (hcmp:∀ (g:Gh) (w:World) (x y:δ) (cx cy:List Value) (r:Int),Rep.rep g x cx→Rep.rep g y cy→St g [] [] w→cm x y=some r →
   Calls P gf #[.agg cx.toArray,.agg cy.toArray] w (fun en w'=>∃ u,en=.returned u∧∃ g',Le g g'∧St g' [] [] w'∧.int .i64 r=u))
  {g:Gh} {cks:List Hl} {fr:Hl} {w:World} {l l':List δ} {v:Value} {c:Hl} (S:St g (c::cks) fr w) (ho:OwnS g l v c) (hl:sortM cm l=some l') :
  Calls P (ρ'.f 6) #[v,.func (.func gf) #[] #[]] w (fun en w'=>∃ u,en=.returned u∧∃ c',St g (c'::cks) fr w'∧OwnS g l' v c'∧u=.tuple #[]):=by
 obtain ⟨hfit,hsz,rfl⟩:=sortM_some hl;by_cases hn:l=[]
 ·subst hn
  have hv:∃ p cap,v=.slice p 0 cap:=by
   obtain ⟨a,cap,h,_⟩:=ho.len;exact ⟨a,cap,h⟩
  obtain ⟨p,cap,rfl⟩:=hv;refine (AnyF.slices_SortFunc_none L p cap _ w).mono ?_;rintro e w' ⟨rfl,rfl⟩;exact ⟨_,rfl,c,S,by simpa using ho,rfl⟩
 rcases ho with ⟨_,h,_⟩ | ⟨b,cap,arr,t,rfl,rfl,h3,h4,h5⟩
 ·exact absurd h hn
 have hb:=S.heap 0 rfl;have hgb:=S.snapNone 0 rfl;have hpos:0 < l.length:=K7.2 hn
 have hel:∀ i (h:i < l.length),(i * Rep.n δ+Rep.n δ≤arr.size):=by
  intro i h;have:(i+1) * Rep.n δ≤cap * Rep.n δ:=Aq _ (by omega)
  rw [B8,Nat.one_mul] at this;omega
 let mk:(i:Fin l.length)→Cel g l:=fun i=>⟨(l[i],(arr.toList.drop (i * Rep.n δ)).take (Rep.n δ)),Ar _,h5 i i.2⟩
 haveI:Inhabited (Cel g l):=⟨mk ⟨0,hpos⟩⟩
 let enc:Cel g l→List Value:=fun p=>p.1.2;let cf:Cel g l→Cel g l→Int:=fun x y=>(cm x.1.1 y.1.1).getD 0;let d:Array (Cel g l):=Array.ofFn mk;have hds:d.size=l.length:=Array.size_ofFn;have hk:∀ x,(enc x).length=Rep.n δ:=fun x=>Rep.len x.2.2;have h1:∀ x,∀ u∈enc x,u.oneCell'=true:=fun x u hu=>oneC_cell' (Rep.one x.2.2 u hu);have hO:SWO (ltOf cf):=⟨fun x=>hfit.irrefl _ x.2.1,fun x y z=>hfit.trans _ x.2.1 _ y.2.1 _ z.2.1,fun x y z=>hfit.ntrans _ x.2.1 _ y.2.1 _ z.2.1⟩
 have hget:∀ i (h:i < l.length),d[i]! = mk ⟨i,h⟩:=by
  intro i h;rw [getElem!_pos d i (by rw [hds];exact h)]
  simp [d]
 have hH:HoldsK enc (Rep.n δ) w b 0 d:=by
  intro j hj;have hj':j < l.length * Rep.n δ:=by rw [size_flatK,hds] at hj;exact hj
  have hn0:0 < Rep.n δ:=by
   rcases Nat.eq_zero_or_pos (Rep.n δ) with h | h
   ·rw [h] at hj';simp at hj'
   ·exact h
  have hq:j / Rep.n δ < l.length:=Nat.div_lt_of_lt_mul (by rw [Nat.mul_comm];exact hj')
  have hm:=Nat.mod_lt j hn0;have hjj:j / Rep.n δ * Rep.n δ+j % Rep.n δ=j:=by rw [Nat.mul_comm];exact Nat.div_add_mod j _
  have hjs:j < arr.size:=by have:=hel _ hq;omega
  refine ⟨?_,by simp [World.frozen?,hb]⟩
  rw [cell_at hb,Gc,Array.getElem?_eq_getElem hjs,get_flatK _ _ _ _ (by rw [hds];exact hj'),hget _ hq]
  show some arr[j]=some ((arr.toList.drop (j / Rep.n δ * Rep.n δ)).take (Rep.n δ))[j % Rep.n δ]!;rw [List.getElem!_eq_getElem?_getD,List.getElem?_take,Ad hm,List.getElem?_drop,hjj,Array.getElem?_toList,Array.getElem?_eq_getElem hjs];rfl
 have hblk:b < w.heap.size:=U3 hb
 have hother:∀ (m:Nat) (os:Array Obj) (dk:Array (Cel g l)) (i:Nat) (o:Obj),i≠b→w.heap[i]? = some o→(sortWorldK enc (Rep.n δ) w b 0 m dk os).heap[i]? = some o:=by
  intro m os dk i o hi ho;have h2:=(putRowK_heap enc (Rep.n δ) (Sort.ahead w m) b dk hb).2 i hi;have h3:(putRowK enc (Rep.n δ) (Sort.ahead w m) b 0 dk).heap[i]? = some o:=h2.trans ho;show ((putRowK enc (Rep.n δ) (Sort.ahead w m) b 0 dk).heap++os)[i]? = some o;rw [Array.getElem?_append_left (U3 h3)];exact h3
 have hC:CmpLays P gf #[] enc (Rep.n δ) cf b 0 d.size w:=by
  intro m os dk hdk x y;obtain ⟨r,hr⟩:=hfit.some_ _ x.2.1 _ y.2.1;generalize hW:sortWorldK enc (Rep.n δ) w b 0 m dk os=W
  have hle:Le g (Gh.of W):=by
   refine ⟨fun i o hi=>?_,?_,?_,?_,?_⟩
   ·show W.heap[i]? = some o;rw [← hW];exact hother m os dk i o (fun e=>by rw [e,hgb] at hi;cases hi) (S.snap i o hi)
   ·rw [← hW];exact S.os
   ·rw [← hW];exact S.out
   ·rw [← hW];exact S.tape
   ·rw [← hW];exact Bx S.dr (Nat.le_add_right _ m)
  refine (hcmp (Gh.of W) W x.1.1 y.1.1 (enc x) (enc y) r (Rep.mono hle x.2.2) (Rep.mono hle y.2.2) (St.of W) hr).mono ?_;rintro e w' ⟨u,rfl,g',hl',S',rfl⟩;refine ⟨by show _=Ending.returned (.int .i64 ((cm x.1.1 y.1.1).getD 0));rw [hr];rfl,w'.drawn - W.drawn,w'.heap.extract W.heap.size w'.heap.size,?_⟩
  have hbel:=below_of hl' S';have hd:W.drawn≤w'.drawn:=Bx hl'.dr S'.dr
  have hh:w'.heap=W.heap++w'.heap.extract W.heap.size w'.heap.size:=by
   refine Array.ext (by simp;have:=hbel.size;omega) ?_
   intro i h1 h2;by_cases hi:i < W.heap.size
   ·rw [Array.getElem_append_left hi];have:=hbel.block i hi;rw [Array.getElem?_eq_getElem h1,Array.getElem?_eq_getElem hi] at this;exact Gg this
   ·rw [Array.getElem_append_right (by omega),Array.getElem_extract]
    congr 1;omega
  cases w' with
  | mk heap tape drawn os out =>
   have a1:=hbel.tape;have a2:=hbel.os;have a3:=hbel.output;simp only at a1 a2 a3 hh hd ⊢;subst a1 a2 a3;unfold grow World.drewN;simp only [World.mk.injEq];refine ⟨hh,?_,by omega,?_,?_⟩ <;> first | rfl | trivial
 have hlen:(d.size:Nat) < 4611686018427387904:=by rw [hds];exact hsz
 have key:=AnyQ.slices_SortFunc L (Rep.n δ) aE zE enc hk h1 cf hO gf #[] b 0 cap d w eg hC hH hblk hlen;rw [hds] at key;refine key.mono ?_;rintro e w' ⟨rfl,d',n,os,hperm,hsort,rfl⟩;have hds':d'.size=l.length:=by rw [hperm.1,hds]
 have hd0:d.toList.map (fun p=>p.1.1)=l:=by
  refine List.ext_getElem (by simp [hds]) ?_
  intro i h1 h2;simp [d,mk]
 have hpl:(d'.toList.map (fun p=>p.1.1)).Perm l:=by
  have h2:=hperm.2.2;rw [show d'.extract 0 l.length=d' by rw [← hds'];simp,show d.extract 0 l.length=d by rw [← hds];simp] at h2
  have h3:=h2.map (fun p:Cel g l=>p.1.1)
  rwa [hd0] at h3
 have hpw:(d'.toList.map (fun p=>p.1.1)).Pairwise fun x y=>ltM cm y x=false:=by
  rw [B0];intro i j hi hj hij;simp only [C1,Array.length_toList] at hi hj;have h2:=hsort i j (Cs _) hij (by omega)
  rw [getElem!_pos d' i hi,getElem!_pos d' j hj] at h2;simp only [List.getElem_map,Array.getElem_toList];exact h2
 have heq:=sortM_uniq hfit hpl hpw;rw [← heq];have hb2:=(putRowK_heap enc (Rep.n δ) (Sort.ahead w n) b d' hb);refine ⟨_,rfl,[(b,.cells (putCells id 0 (flatK enc (Rep.n δ) d') arr) t (0,0))],?_,?_,rfl⟩
 ·have S2:St0 g ((b,.cells arr t (0,0))::fl cks fr) w:=S;have S3:=S2.write (w':=putRowK enc (Rep.n δ) (Sort.ahead w n) b 0 d') (y:=.cells (putCells id 0 (flatK enc (Rep.n δ) d') arr) t (0,0)) hb2.1 (fun c hc=>hb2.2 c hc) rfl rfl rfl (Nat.le_add_right _ _);exact S3.grown os
 ·refine .inr ⟨b,cap,_,t,?_,rfl,?_,?_,?_⟩
  ·simp [hds']
  ·simpa [hds'] using h3
  ·simp [putCells,h4]
  ·intro i hi;simp only [C1,Array.length_toList] at hi;have hi':i < l.length:=by omega
   have he:=hel i hi'
   have hcell:((putCells id 0 (flatK enc (Rep.n δ) d') arr).toList.drop (i * Rep.n δ)).take (Rep.n δ)=enc d'[i]:=by
    refine drop_take_get (hk _) (by simp [putCells];omega) ?_
    intro c hc
    have hlt:i * Rep.n δ+c < d'.size * Rep.n δ:=by
     have:(i+1) * Rep.n δ≤d'.size * Rep.n δ:=Aq _ (by omega)
     rw [B8,Nat.one_mul] at this;omega
    have hn0:0 < Rep.n δ:=by omega
    have e1:(i * Rep.n δ+c) / Rep.n δ=i:=(blk_iff (Rep.n δ) i _ hn0).1 ⟨by omega,by omega⟩
    have e2:(i * Rep.n δ+c) % Rep.n δ=c:=by rw [Nat.mod_eq_sub_div_mul,e1];omega
    have hg:=get_flatK enc (Rep.n δ) d' _ hlt;rw [e1,e2,getElem!_pos d' i hi] at hg;simp only [putCells,Array.getElem?_mapIdx];rw [Array.getElem?_eq_getElem (by omega)]
    simp only [N7,Cs,true_and,Gc,size_flatK,Nat.sub_zero,id];rw [Ad hlt,hg]
   simp only [List.getElem_map,Array.getElem_toList];rw [hcell];exact d'[i].2.2
end
end Go.Dc
set_option linter.unusedSimpArgs false
set_option linter.unusedVariables false
namespace Go.Dc
open Go Go.Sort Go.Proofs
def Yv (l:Ab):Ab:=l.mergeSort fun x y=>!sLt y x
def sortS? (l:Ab):Option Ab:=if l.length < 4611686018427387904 then some (Yv l) else Option.none
theorem sortS?_some {l l':Ab} (h:sortS? l=some l'):l.length < 4611686018427387904∧l'=Yv l:=by
 unfold sortS? at h;split at h
 ·rename_i h1;exact ⟨h1,(Gg h).symm⟩
 ·cases h
theorem bytesLess_lt:∀ (x y:List UInt8),Op.bytesLess x y=decide (x < y)
 | [],[]=>by simp [Op.bytesLess]
 | _::_,[]=>by simp [Op.bytesLess]
 | [],_::_=>by simp [Op.bytesLess]
 | a::x,b::y=>by
  rw [Op.bytesLess,bytesLess_lt x y];simp only [List.cons_lt_cons_iff];by_cases h1:a < b <;> by_cases h2:a=b <;> by_cases h3:x < y <;> simp [h1,h2,h3]
theorem sLt_le (x y:ByteArray):(!sLt y x)=decide (x.data.toList≤y.data.toList):=by
 have e:∀ s:ByteArray,s.toList=s.data.toList:=fun s=>Zi s;unfold sLt;rw [e,e,bytesLess_lt];by_cases h:y.data.toList < x.data.toList
 ·rw [Ag h];have:¬ x.data.toList≤y.data.toList:=fun h2=>List.not_le.2 h h2;rw [Af this];rfl
 ·rw [Af h];have:x.data.toList≤y.data.toList:=List.not_lt.1 h;rw [Ag this];rfl
theorem sort_map (l:Ab):(l.map fun s=>s.data.toList).mergeSort (fun x y=>decide (x≤y))=(Yv l).map fun s=>s.data.toList:=by
 unfold Yv;exact (List.map_mergeSort (r:=fun x y=>!sLt y x) (s:=fun x y:List UInt8=>decide (x≤y)) (f:=fun s:ByteArray=>s.data.toList) (l:=l) (fun a _ b _=>sLt_le a b)).symm
theorem St0.grownS {g:Gh} {o:Hl} {w:World} (h:St0 g o w) (os:Array Obj):St0 g o (grow w os) where
 snap:=fun b x hb=>by
  have:=h.snap b x hb;show (w.heap++os)[b]? = some x;rw [Array.getElem?_append_left (U3 this)];exact this
 own:=fun p hp=>⟨by
  have:=(h.own p hp).1;show (w.heap++os)[p.1]? = some p.2;rw [Array.getElem?_append_left (U3 this)];exact this,(h.own p hp).2⟩
 nd:=h.nd
 os:=h.os
 out:=h.out
 tape:=h.tape
 dr:=h.dr
variable {P : Program} {ρ' : Go.Shelf.Ren}
theorem putRow_heap {α:Type} [Inhabited α] (enc:α→Value) (w:World) (b:Nat) (d:Array α) {arr:Array Value} {t:TypeId} {fz:Nat×Nat} (hb:w.heap[b]? = some (.cells arr t fz)) :
  (putRow enc w b 0 d).heap[b]? = some (.cells (putCells enc 0 d arr) t fz)∧∀ i,i≠b→(putRow enc w b 0 d).heap[i]? = w.heap[i]?:=by
 constructor
 ·simp [putRow,mapBlock,Array.getElem?_modify,hb,onCells]
 ·intro i hi;simp [putRow,mapBlock,Array.getElem?_modify,Ne.symm hi]
set_option maxHeartbeats 1000000 in
theorem sortS_ok (L:SlLaysM.n6 P ρ') {g:Gh} {cks:List Hl} {fr:Hl} {w:World} {l l':Ab} {v:Value} {c:Hl} (S:St g (c::cks) fr w) (ho:OwnS g l v c) (hl:sortS? l=some l') :
  Calls P (ρ'.f 6) #[v] w (fun en w'=>∃ u,en=.returned u∧∃ c',St g (c'::cks) fr w'∧OwnS g l' v c'∧u=.tuple #[]):=by
 obtain ⟨hsz,rfl⟩:=sortS?_some hl;by_cases hn:l=[]
 ·subst hn;obtain ⟨p,cap,rfl,_⟩:=ho.len;refine (AnyM.slices_Sort_string_none L p cap w).mono ?_;rintro e w' ⟨rfl,rfl⟩;exact ⟨_,rfl,c,S,by simpa [Yv] using ho,rfl⟩
 rcases ho with ⟨_,h,_⟩ | ⟨b,cap,arr,t,rfl,rfl,h3,h4,h5⟩
 ·exact absurd h hn
 have hb:=S.heap 0 rfl;have h1:(Rep.n ByteArray)=1:=rfl;rw [h1,Nat.mul_one] at h4
 have hcell:∀ i (h:i < l.length),arr[i]? = some (.string l[i]):=by
  intro i hi;have:=W7 (h5 i hi);rw [h1,Nat.mul_one] at this;have h2:=congrArg (fun q=>q[0]?) this;simp only [List.getElem?_take,List.getElem?_drop,Eg,Nat.zero_lt_one,Ad,List.getElem?_cons_zero,Array.getElem?_toList] at h2;exact h2
 let ss:=l.map fun s=>s.data.toList;have hsl:ss.length=l.length:=by simp [ss]
 have hH:Holds encStr w b 0 ss.toArray:=by
  intro j hj;have hj':j < l.length:=by simpa [ss] using hj
  refine ⟨?_,by simp [World.frozen?,hb]⟩
  rw [cell_at hb,Gc,hcell j hj']
  have e:(ss.toArray)[j]! = l[j].data.toList:=by
   rw [getElem!_pos ss.toArray j hj];simp [ss]
  rw [e]
 have key:=AnyM.slices_Sort_string L b 0 cap ss w hH (U3 hb) (by rw [hsl];exact hsz)
 rw [hsl] at key;refine key.mono ?_;rintro e w' ⟨rfl,n,os,rfl⟩;rw [sort_map];have hperm:(Yv l).Perm l:=List.mergeSort_perm _ _;have hlen:(Yv l).length=l.length:=hperm.length_eq;generalize hD:((Yv l).map fun s=>s.data.toList).toArray=D;have hDs:D.size=l.length:=by rw [← hD];simp [hlen]
 have hb2:=(putRow_heap encStr (Sort.ahead w n) b D hb);refine ⟨_,rfl,[(b,.cells (putCells encStr 0 D arr) t (0,0))],?_,?_,rfl⟩
 ·have S2:St0 g ((b,.cells arr t (0,0))::fl cks fr) w:=S;have S3:=S2.write (w':=putRow encStr (Sort.ahead w n) b 0 D) (y:=.cells (putCells encStr 0 D arr) t (0,0)) hb2.1 (fun c hc=>hb2.2 c hc) rfl rfl rfl (Nat.le_add_right _ _);exact S3.grownS os
 ·refine .inr ⟨b,cap,_,t,?_,rfl,?_,?_,?_⟩
  ·rw [hlen]
  ·rw [hlen];exact h3
  ·simp [putCells,h4,h1]
  ·intro i hi;have hi':i < l.length:=by omega
   have hg:(putCells encStr 0 D arr)[i]? = some (.string (Yv l)[i]):=by
    simp only [putCells,Array.getElem?_mapIdx,hcell i hi',N7,Cs,true_and,Gc,hDs,Ad hi',Nat.sub_zero]
    have e:D[i]! = (Yv l)[i].data.toList:=by
     rw [getElem!_pos D i (by omega)];simp [← hD]
    rw [e]
   have e2:((putCells encStr 0 D arr).toList.drop (i * Rep.n ByteArray)).take (Rep.n ByteArray)=[.string (Yv l)[i]]:=by
    rw [h1,Nat.mul_one];refine List.ext_getElem? fun j=>?_;rw [List.getElem?_take,List.getElem?_drop];by_cases hj:j < 1
    ·have:j=0:=by omega
     subst this;rw [Ad hj,Eg,Array.getElem?_toList,hg];rfl
    ·rw [Ac hj,List.getElem?_eq_none (by simp;omega)]
   rw [e2];exact rfl
end Go.Dc
