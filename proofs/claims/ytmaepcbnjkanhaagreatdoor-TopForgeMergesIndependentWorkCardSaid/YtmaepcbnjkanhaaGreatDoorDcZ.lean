import Derived.Test.YtmaepcbnjkanhaaGreatDoorDcY
import Derived.ChangeKeysEq
set_option linter.unusedVariables false
namespace Go.Dc
open Go
variable {P : Program}
section
variable {α : Type} [Rep α] [ORep α]
structure PW (g:Gh) (l:List α) (rl:List (Raw (Rep.n α))) (ks:List Hl):Prop where
  hl:rl.length=l.length
  hk:ks.length=l.length
  at_:∀ i (h:i < l.length) (h1:i < rl.length) (h2:i < ks.length),ORep.orep g l[i] rl[i].cs ks[i]
theorem PW.mono {g g':Gh} {l:List α} {rl:List (Raw (Rep.n α))} {ks:List Hl} (hl:Le g g') (h:PW g l rl ks):PW g' l rl ks:=⟨h.hl,h.hk,fun i a b c=>ORep.omono hl (h.at_ i a b c)⟩
theorem PW.append {g:Gh} {l m:List α} {rl rm:List (Raw (Rep.n α))} {kl km:List Hl} (h:PW g l rl kl) (h':PW g m rm km):PW g (l++m) (rl++rm) (kl++km) where
  hl:=by rw [List.length_append,List.length_append,h.hl,h'.hl]
  hk:=by rw [List.length_append,List.length_append,h.hk,h'.hk]
  at_:=by
    intro i a b c;have e1:=h.hl;have e2:=h.hk;by_cases hi:i < l.length
    · rw [List.getElem_append_left hi,List.getElem_append_left (by omega),List.getElem_append_left (by omega)]
      exact h.at_ i hi _ _
    · rw [List.length_append] at a;have e3:=h'.hl;have e4:=h'.hk;rw [List.getElem_append_right (by omega),List.getElem_append_right (by omega),List.getElem_append_right (by omega)]
      have f1:i - rl.length=i - l.length:=by omega
      have f2:i - kl.length=i - l.length:=by omega
      simp only [f1,f2];exact h'.at_ (i - l.length) (by omega) (by omega) (by omega)
theorem PW.take {g:Gh} {l:List α} {rl:List (Raw (Rep.n α))} {ks:List Hl} (h:PW g l rl ks) (p:Nat):PW g (l.take p) (rl.take p) (ks.take p) where
  hl:=by rw [List.length_take,List.length_take,h.hl]
  hk:=by rw [List.length_take,List.length_take,h.hk]
  at_:=by
    intro i a b c;rw [List.getElem_take,List.getElem_take,List.getElem_take];rw [List.length_take] at a b c;exact h.at_ i (by omega) (by omega) (by omega)
theorem PW.drop {g:Gh} {l:List α} {rl:List (Raw (Rep.n α))} {ks:List Hl} (h:PW g l rl ks) (p:Nat):PW g (l.drop p) (rl.drop p) (ks.drop p) where
  hl:=by rw [List.length_drop,List.length_drop,h.hl]
  hk:=by rw [List.length_drop,List.length_drop,h.hk]
  at_:=by
    intro i a b c;rw [List.getElem_drop,List.getElem_drop,List.getElem_drop];rw [List.length_drop] at a b c;exact h.at_ (p+i) (by omega) (by omega) (by omega)
theorem PW.own {g:Gh} {l:List α} {v:Value} {ca:Hl} {rl:List (Raw (Rep.n α))} {ks:List Hl} (h:PW g l rl ks) (ho:OwnS g rl v ca):OwnN g l v (ca++ks.flatten) :=
  ⟨rl,ca,ks,ho,List.Perm.refl _,h.hl,h.hk,h.at_⟩
theorem del?_mk {β:Type} {s:List β} {p q:Nat} (hpq:p≤q) (hq:q≤s.length):del? s (p:Int) (q:Int)=some (s.take p++s.drop q):=by
  unfold del?;rw [if_pos (by omega),Int.toNat_natCast,Int.toNat_natCast]
end
theorem Mh {w:World} {p:Value} {cs cells:List Value} (h:PtrW w p cs) (hc:(cs.drop 0).take cells.length=cells) (hm:0+cells.length≤cs.length):PtrW w p cells:=by
  have:=Lw 0 h hc hm
  rwa [H0] at this
def RepH (_:Gh) (l:List Unit) (v:Value):Prop:=l=[]∧∃ n:Int,v=.int .i64 n
theorem RepH.mono {g g':Gh} {l:List Unit} {v:Value} (_:Le g g') (h:RepH g l v):RepH g' l v:=h
theorem RepH.one {g:Gh} {l:List Unit} {v:Value} (h:RepH g l v):Ny v=true:=by obtain ⟨_,n,rfl⟩:=h;rfl
theorem RepH.int {g:Gh} {n:Int}:RepH g ([]:List Unit) (.int .i64 n):=⟨rfl,n,rfl⟩
end Go.Dc
