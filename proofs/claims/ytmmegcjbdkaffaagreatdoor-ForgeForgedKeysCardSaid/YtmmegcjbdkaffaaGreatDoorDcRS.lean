import Derived.Test.YtmmegcjbdkaffaaGreatDoorDcZN
import Derived.Test.YtmmegcjbdkaffaaGreatDoorDcI
import Derived.Shelf.SortM.Plain
import Derived.Shelf.SortM.SortNone
set_option linter.unusedSimpArgs false
set_option linter.unusedVariables false
namespace Go.Dc
open Go Go.Sort Go.Proofs
def Tb (l:List ByteArray):List ByteArray:=l.mergeSort fun x y=>!sLt y x
def sortS? (l:List ByteArray):Option (List ByteArray):=if l.length < 4611686018427387904 then some (Tb l) else Option.none
theorem sortS?_some {l l':List ByteArray} (h:sortS? l=some l'):l.length < 4611686018427387904∧l'=Tb l:=by
  unfold sortS? at h;split at h
  · rename_i h1;exact ⟨h1,(Option.some.inj h).symm⟩
  · cases h
theorem bytesLess_lt:∀ (x y:List UInt8),Op.bytesLess x y=decide (x < y)
  | [],[]=>by simp [Op.bytesLess]
  | _::_,[]=>by simp [Op.bytesLess]
  | [],_::_=>by simp [Op.bytesLess]
  | a::x,b::y=>by
    rw [Op.bytesLess,bytesLess_lt x y];simp only [List.cons_lt_cons_iff];by_cases h1:a < b <;> by_cases h2:a=b <;> by_cases h3:x < y <;> simp [h1,h2,h3]
theorem sLt_le (x y:ByteArray):(!sLt y x)=decide (x.data.toList≤y.data.toList):=by
  have e:∀ s:ByteArray,s.toList=s.data.toList:=fun s=>T6 s;unfold sLt;rw [e,e,bytesLess_lt];by_cases h:y.data.toList < x.data.toList
  · rw [decide_eq_true h];have:¬ x.data.toList≤y.data.toList:=fun h2=>List.not_le.2 h h2;rw [decide_eq_false this];rfl
  · rw [decide_eq_false h];have:x.data.toList≤y.data.toList:=List.not_lt.1 h;rw [decide_eq_true this];rfl
theorem sort_map (l:List ByteArray):(l.map fun s=>s.data.toList).mergeSort (fun x y=>decide (x≤y))=(Tb l).map fun s=>s.data.toList:=by
  unfold Tb;exact (List.map_mergeSort (r:=fun x y=>!sLt y x) (s:=fun x y:List UInt8=>decide (x≤y)) (f:=fun s:ByteArray=>s.data.toList) (l:=l) (fun a _ b _=>sLt_le a b)).symm
theorem St0.grownS {g:Gh} {o:Hl} {w:World} (h:St0 g o w) (os:Array Obj):St0 g o (grow w os) where
  snap:=fun b x hb=>by
    have:=h.snap b x hb;show (w.heap++os)[b]? = some x;rw [Array.getElem?_append_left (Ni this)];exact this
  own:=fun p hp=>⟨by
    have:=(h.own p hp).1;show (w.heap++os)[p.1]? = some p.2;rw [Array.getElem?_append_left (Ni this)];exact this,(h.own p hp).2⟩
  nd:=h.nd
  os:=h.os
  out:=h.out
  tape:=h.tape
  dr:=h.dr
variable {P : Program} {ρ' : Go.Shelf.Ren}
theorem putRow_heap {α:Type} [Inhabited α] (enc:α→Value) (w:World) (b:Nat) (d:Array α) {arr:Array Value} {t:TypeId} {fz:Nat×Nat} (hb:w.heap[b]? = some (.cells arr t fz)) :
    (putRow enc w b 0 d).heap[b]? = some (.cells (putCells enc 0 d arr) t fz)∧∀ i,i≠b→(putRow enc w b 0 d).heap[i]? = w.heap[i]?:=by
  constructor
  · simp [putRow,mapBlock,Array.getElem?_modify,hb,onCells]
  · intro i hi;simp [putRow,mapBlock,Array.getElem?_modify,Ne.symm hi]
set_option maxHeartbeats 1000000 in
theorem sortS_ok (L:SlLaysM.n6 P ρ') {g:Gh} {cks:List Hl} {fr:Hl} {w:World} {l l':List ByteArray} {v:Value} {c:Hl} (S:St g (c::cks) fr w) (ho:OwnS g l v c) (hl:sortS? l=some l') :
    Calls P (ρ'.f 6) #[v] w (fun en w'=>∃ u,en=.returned u∧∃ c',St g (c'::cks) fr w'∧OwnS g l' v c'∧u=.tuple #[]):=by
  obtain ⟨hsz,rfl⟩:=sortS?_some hl;by_cases hn:l=[]
  · subst hn;obtain ⟨p,cap,rfl,_⟩:=ho.len;refine (AnyM.slices_Sort_string_none L p cap w).mono ?_;rintro e w' ⟨rfl,rfl⟩;exact ⟨_,rfl,c,S,by simpa [Tb] using ho,rfl⟩
  rcases ho with ⟨_,h,_⟩ | ⟨b,cap,arr,t,rfl,rfl,h3,h4,h5⟩
  · exact absurd h hn
  have hb:=S.heap 0 rfl;have h1:(Rep.n ByteArray)=1:=rfl;rw [h1,Nat.mul_one] at h4
  have hcell:∀ i (h:i < l.length),arr[i]? = some (.string l[i]):=by
    intro i hi;have:=Hu (h5 i hi);rw [h1,Nat.mul_one] at this;have h2:=congrArg (fun q=>q[0]?) this;simp only [List.getElem?_take,List.getElem?_drop,Nat.add_zero,Nat.zero_lt_one,if_pos,List.getElem?_cons_zero,Array.getElem?_toList] at h2;exact h2
  let ss:=l.map fun s=>s.data.toList;have hsl:ss.length=l.length:=by simp [ss]
  have hH:Holds encStr w b 0 ss.toArray:=by
    intro j hj;have hj':j < l.length:=by simpa [ss] using hj
    refine ⟨?_,by simp [World.frozen?,hb]⟩
    rw [cell_at hb,Nat.zero_add,hcell j hj']
    have e:(ss.toArray)[j]! = l[j].data.toList:=by
      rw [getElem!_pos ss.toArray j hj];simp [ss]
    rw [e]
  have key:=AnyM.slices_Sort_string L b 0 cap ss w hH (Ni hb) (by rw [hsl];exact hsz)
  rw [hsl] at key;refine key.mono ?_;rintro e w' ⟨rfl,n,os,rfl⟩;rw [sort_map];have hperm:(Tb l).Perm l:=List.mergeSort_perm _ _;have hlen:(Tb l).length=l.length:=hperm.length_eq;generalize hD:((Tb l).map fun s=>s.data.toList).toArray=D;have hDs:D.size=l.length:=by rw [← hD];simp [hlen]
  have hb2:=(putRow_heap encStr (Sort.ahead w n) b D hb);refine ⟨_,rfl,[(b,.cells (putCells encStr 0 D arr) t (0,0))],?_,?_,rfl⟩
  · have S2:St0 g ((b,.cells arr t (0,0))::fl cks fr) w:=S;have S3:=S2.write (w':=putRow encStr (Sort.ahead w n) b 0 D) (y:=.cells (putCells encStr 0 D arr) t (0,0)) hb2.1 (fun c hc=>hb2.2 c hc) rfl rfl rfl (Nat.le_add_right _ _);exact S3.grownS os
  · refine .inr ⟨b,cap,_,t,?_,rfl,?_,?_,?_⟩
    · rw [hlen]
    · rw [hlen];exact h3
    · simp [putCells,h4,h1]
    · intro i hi;have hi':i < l.length:=by omega
      have hg:(putCells encStr 0 D arr)[i]? = some (.string (Tb l)[i]):=by
        simp only [putCells,Array.getElem?_mapIdx,hcell i hi',Option.map_some,Nat.zero_le,true_and,Nat.zero_add,hDs,if_pos hi',Nat.sub_zero]
        have e:D[i]! = (Tb l)[i].data.toList:=by
          rw [getElem!_pos D i (by omega)];simp [← hD]
        rw [e]
      have e2:((putCells encStr 0 D arr).toList.drop (i * Rep.n ByteArray)).take (Rep.n ByteArray)=[.string (Tb l)[i]]:=by
        rw [h1,Nat.mul_one];refine List.ext_getElem? fun j=>?_;rw [List.getElem?_take,List.getElem?_drop];by_cases hj:j < 1
        · have:j=0:=by omega
          subst this;rw [if_pos hj,Nat.add_zero,Array.getElem?_toList,hg];rfl
        · rw [if_neg hj,List.getElem?_eq_none (by simp;omega)]
      rw [e2];exact rfl
end Go.Dc
