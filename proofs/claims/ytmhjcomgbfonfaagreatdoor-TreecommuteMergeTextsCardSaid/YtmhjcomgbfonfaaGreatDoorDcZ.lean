import Derived.Test.YtmhjcomgbfonfaaGreatDoorDcY
import Derived.ChangeKeysEq
set_option linter.unusedVariables false
namespace Go.Dc
open Go
variable {P : Program}
section
variable {α : Type} [Rep α] [ORep α]
structure PW (g:Gh) (l:List α) (rl:List (Raw (Rep.n α))) (ks:List Hl):Prop where
  hl:rl.length=l.length
  hk:ks.length=l.length
  at_:∀ i (h:i < l.length) (h1:i < rl.length) (h2:i < ks.length),ORep.orep g l[i] rl[i].cs ks[i]
theorem PW.mono {g g':Gh} {l:List α} {rl:List (Raw (Rep.n α))} {ks:List Hl} (hl:Le g g') (h:PW g l rl ks):PW g' l rl ks:=⟨h.hl,h.hk,fun i a b c=>ORep.omono hl (h.at_ i a b c)⟩
theorem PW.append {g:Gh} {l m:List α} {rl rm:List (Raw (Rep.n α))} {kl km:List Hl} (h:PW g l rl kl) (h':PW g m rm km):PW g (l++m) (rl++rm) (kl++km) where
  hl:=by rw [List.length_append,List.length_append,h.hl,h'.hl]
  hk:=by rw [List.length_append,List.length_append,h.hk,h'.hk]
  at_:=by
    intro i a b c;have e1:=h.hl;have e2:=h.hk;by_cases hi:i < l.length
    · rw [List.getElem_append_left hi,List.getElem_append_left (by omega),List.getElem_append_left (by omega)]
      exact h.at_ i hi _ _
    · rw [List.length_append] at a;have e3:=h'.hl;have e4:=h'.hk;rw [List.getElem_append_right (by omega),List.getElem_append_right (by omega),List.getElem_append_right (by omega)]
      have f1:i - rl.length=i - l.length:=by omega
      have f2:i - kl.length=i - l.length:=by omega
      simp only [f1,f2];exact h'.at_ (i - l.length) (by omega) (by omega) (by omega)
theorem PW.take {g:Gh} {l:List α} {rl:List (Raw (Rep.n α))} {ks:List Hl} (h:PW g l rl ks) (p:Nat):PW g (l.take p) (rl.take p) (ks.take p) where
  hl:=by rw [List.length_take,List.length_take,h.hl]
  hk:=by rw [List.length_take,List.length_take,h.hk]
  at_:=by
    intro i a b c;rw [List.getElem_take,List.getElem_take,List.getElem_take];rw [List.length_take] at a b c;exact h.at_ i (by omega) (by omega) (by omega)
theorem PW.drop {g:Gh} {l:List α} {rl:List (Raw (Rep.n α))} {ks:List Hl} (h:PW g l rl ks) (p:Nat):PW g (l.drop p) (rl.drop p) (ks.drop p) where
  hl:=by rw [List.length_drop,List.length_drop,h.hl]
  hk:=by rw [List.length_drop,List.length_drop,h.hk]
  at_:=by
    intro i a b c;rw [List.getElem_drop,List.getElem_drop,List.getElem_drop];rw [List.length_drop] at a b c;exact h.at_ (p+i) (by omega) (by omega) (by omega)
theorem PW.own {g:Gh} {l:List α} {v:Value} {ca:Hl} {rl:List (Raw (Rep.n α))} {ks:List Hl} (h:PW g l rl ks) (ho:OwnS g rl v ca):OwnN g l v (ca++ks.flatten) :=
  ⟨rl,ca,ks,ho,List.Perm.refl _,h.hl,h.hk,h.at_⟩
end
def O6 (P:Program) (E:TypeId) (k:Nat) (xs ys:List Value):List Nat→List Bool→Prop
  | [],bs=>bs=[]
  | i::is,bs=>∃ b bs',bs=b::bs'∧(∃ x y,xs[i * k]? = some x∧ys[i * k]? = some y∧LeafEq P E x y b)∧O6 P E k xs ys is bs'
theorem O3 {E:TypeId} {k:Nat} {xs ys:List Value} (d:Nat) (w:World):∀ (is:List Nat) {bs:List Bool},O6 P E k xs ys is bs→(Op.eqItems (d+1) E k xs.toArray ys.toArray is).run P w=.ok (allB bs) w
  | [],bs,hl=>by
    simp only [O6] at hl;subst hl;simp [Op.eqItems,allB]
  | i::is,bs,hl=>by
    simp only [O6] at hl;obtain ⟨b,bs',rfl,⟨x,y,hx,hy,⟨dd,hu,hag⟩,he⟩,hr⟩:=hl;have ih:=O3 d w is hr;have px:(part E xs.toArray (i * k)).run P w=.ok x w:=by simp [part,Hn hu,hag,hx]
    have py:(part E ys.toArray (i * k)).run P w=.ok y w:=by simp [part,Hn hu,hag,hy]
    simp only [Op.eqItems,Sem.run_bind,px,py,Result.andThen_ok,he d w,allB_cons];cases b
    · simp
    · simpa using ih
theorem run_eqA {T E:TypeId} {N k:Nat} {xs ys:List Value} {is:List Nat} {bs:List Bool} (hT:P.underlying T=some (.array N E)) (hz:(P.info? E).map (·.size)=some k) (his:List.range N=is) (h:O6 P E k xs ys is bs) (w:World) :
    (Op.equal T (.agg xs.toArray) (.agg ys.toArray)).run P w=.ok (allB bs) w:=by
  simp only [Op.equal,Op.maxDepth];cases hi:P.info? E with
  | none=>rw [hi] at hz;cases hz
  | some i =>
    rw [run_equalIn_array w 9999 _ _ hT hi,his]
    have hk:P.cellsOf E=k:=by
      rw [hi] at hz;simp [Program.cellsOf,hi] at hz ⊢;exact hz
    rw [hk];exact O3 9998 w is h
theorem ev_neA {n:Fw} {e:List (Nat×Value)} {C:World→Prop} {T E U:TypeId} {N k:Nat} {x y:Operand} {xs ys:List Value} {is:List Nat} {bs:List Bool} (hT:P.underlying T=some (.array N E)) (hz:(P.info? E).map (·.size)=some k) (hgd:P.eqGuardType P.depth T=false) (his:List.range N=is)
    (hx:Bw e x=some (.agg xs.toArray)) (hy:Bw e y=some (.agg ys.toArray)) (h:O6 P E k xs ys is bs):Ev P n e C (.binOp .neq T x y U) (.bool (!allB bs)):=by
  intro o a w ho F _;simp [execOp,ho,F.eval hx,F.eval hy,eqGuard,hgd,binOp,run_eqA hT hz his h]
theorem fieldP0 {w:World} {p:Value} {cs cells:List Value} (h:PtrW w p cs) (hc:(cs.drop 0).take cells.length=cells) (hm:0+cells.length≤cs.length):PtrW w p cells:=by
  have:=fieldP 0 h hc hm
  rwa [addP_zero] at this
def RepH (_:Gh) (l:List Unit) (v:Value):Prop:=l=[]∧∃ n:Int,v=.int .i64 n
theorem RepH.mono {g g':Gh} {l:List Unit} {v:Value} (_:Le g g') (h:RepH g l v):RepH g' l v:=h
theorem RepH.one {g:Gh} {l:List Unit} {v:Value} (h:RepH g l v):M8 v=true:=by obtain ⟨_,n,rfl⟩:=h;rfl
theorem RepH.int {g:Gh} {n:Int}:RepH g ([]:List Unit) (.int .i64 n):=⟨rfl,n,rfl⟩
theorem RepSl.mapR {α β:Type} [Rep α] [Rep β] {f:α→β} {g:Gh} {l:List α} {v:Value} (hf:∀ {g:Gh} {x:α} {cs:List Value},Rep.rep g x cs→Rep.rep g (f x) cs) (hn:Rep.n β=Rep.n α) (h:RepSl g l v):RepSl g (l.map f) v:=by
  rcases h with ⟨rfl,h⟩ | ⟨b,off,cap,c,t,fz,h1,h2,h3,h4,h5⟩
  · exact .inl ⟨rfl,h⟩
  · refine .inr ⟨b,off,cap,c,t,fz,by rw [List.length_map];exact h1,by rw [List.length_map];exact h2,h3,by rw [List.length_map,hn];exact h4,fun i hi=>?_⟩
    rw [List.length_map] at hi;rw [List.getElem_map,hn];exact hf (h5 i hi)
theorem OwnS.mapR {α β:Type} [Rep α] [Rep β] {f:α→β} {g:Gh} {l:List α} {v:Value} {c:Hl} (hf:∀ {g:Gh} {x:α} {cs:List Value},Rep.rep g x cs→Rep.rep g (f x) cs) (hn:Rep.n β=Rep.n α) (h:OwnS g l v c):OwnS g (l.map f) v c:=by
  rcases h with ⟨h1,rfl,h2⟩ | ⟨b,cap,arr,t,h1,h2,h3,h4,h5⟩
  · exact .inl ⟨h1,rfl,h2⟩
  · refine .inr ⟨b,cap,arr,t,by rw [List.length_map];exact h1,h2,by rw [List.length_map];exact h3,by rw [hn];exact h4,fun i hi=>?_⟩
    rw [List.length_map] at hi;rw [List.getElem_map,hn];exact hf (h5 i hi)
end Go.Dc
