import Derived.Test.YtmmegcjbdkaffaaGreatDoorDcI
import Derived.SizedLaws
set_option linter.unusedSimpArgs false
set_option linter.unusedVariables false
namespace Go.Dc
open Go
theorem sized_arg {H:Type} {enc:TypeId×Value→H} {P:Program} {w:World} {fuel:Nat} {g:Gh} {α:Type} [Rep α] {T E:TypeId} {l:List α} {v:Value} {d:DataW H} {p:List MemPlace} (h:P.underlying T=some (.slice E))
    (ht:DataW.trod enc P w 0 (fun _=>true) true fuel T [v]=some (d,p)) (hs:RepSl g l v) {ts:List TypeId} {ds:List (DataW H)} (hw:(DataW.weightsEach P ts ds).all (· ≤ reachBytes)=true) {j:Nat} (h1:ts[j]? = some T) (h2:ds[j]? = some d) {m:Nat} (hm:P.bytesOf E=m):l.length * m≤140737488351232:=by
  subst hm;obtain ⟨a,cap,hv,_⟩:=hs.len;rcases Deep.open_slice h ht with ⟨he,_⟩ | ⟨a',len,cap',m,n,D,Pl,he,_,_,_,_,hx,_⟩
  · rw [hv] at he
    have:l.length=0:=by
      have:=(List.cons.inj he).1;injection this
    rw [this];omega
  · rw [hv] at he
    have hl:l.length=len:=by
      have:=(List.cons.inj he).1;injection this
    have hd:d=.slice ((List.range len).map D) ((List.range (m - len)).map fun j=>D (len+j)):=congrArg Prod.fst hx;rw [hd] at h2;have:=sized_slice hw h1 h2 h;simp only [List.length_map,List.length_range] at this;rw [hl];have h3:len * P.bytesOf E≤(len+(m - len)) * P.bytesOf E:=Nat.mul_le_mul_right _ (Nat.le_add_right _ _);have h4:reachBytes=140737488351232:=by decide
    omega
end Go.Dc
