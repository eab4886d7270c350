import Derived.Test.YtfpbdmldeikfbaaGreatDoorDcAC
set_option linter.unusedSimpArgs false
set_option linter.unusedVariables false
namespace Go.Dc
open Go
variable {P : Program} {ρ : Option Nat} {n : Fw} {e : List (Nat × Value)} {g : Gh} {cks : List Hl} {fr : Hl} {ops : Array Oper} {rest : List Oper} {Q : Exit → Act → World → Prop} {K : Act → World → Prop} {d : Nat} {ty : TypeId} {ps : String} {af : Array Edge}
inductive Md where
  | l (Q:Exit→Act→World→Prop)
  | q (Q:Act→Prop)
def WL (P:Program) (ρ:Option Nat) (ops:Array Oper) (fr:Hl) (g:Gh) (cks:List Hl) (M:Md) (l:List Oper) (a:Act) (w:World):Prop:=match M with
  | .l Q=>wpListIn (RW ρ) 0 P ops Q l a w
  | .q Q=>wpQuiet P ops (St g cks fr) Q l a
structure SL (P:Program) (ρ:Option Nat) (n:Fw) (ops:Array Oper) (M:Md) (fr:Hl) (g:Gh) (cks:List Hl) (e:List (Nat×Value)) (l:List Oper):Prop where
  h:∀ a w,Fr n a e→St g cks fr w→WL P ρ ops fr g cks M l a w
structure SC (P:Program) (ρ:Option Nat) (n:Fw) (Q:Exit→Act→World→Prop) (fr:Hl) (g:Gh) (cks:List Hl) (e:List (Nat×Value)) (c:Code):Prop where
  h:∀ a w,Fr n a e→St g cks fr w→c.wpIn (RW ρ) 0 P Q a w
structure SE (n:Fw) (fr:Hl) (g:Gh) (cks:List Hl) (e:List (Nat×Value)) (R:Act→World→Prop):Prop where
  h:∀ a w,Fr n a e→St g cks fr w→R a w
theorem sxC {a:Act} {w:World} {c:Code} (F:Fr n a e) (S:St g cks fr w) (h:SC P ρ n Q fr g cks e c):c.wpIn (RW ρ) 0 P Q a w:=h.h a w F S
section
variable {M : Md} {o : Oper} {a : Act} {w : World}
theorem wL_ev {v:Value} (hg:Region.wanted o (yielded ops a.tmps)=true) (hev:Ev P n e (fun w=>St g cks fr w) o.op v) (F:Fr n a e) (S:St g cks fr w) (hd:o.dst=some d) (hn:Nat.blt d n.sz=true)
    (k:∀ a',Fr n a' ((d,v)::e)→WL P ρ ops fr g cks M rest a' w):WL P ρ ops fr g cks M (o::rest) a w:=by
  cases M with
  | l Q=>exact wl_ev hg hev F S hd hn k
  | q Q=>exact Mh hg hev F hd hn k
theorem wL_skip {j t:Nat} {want b:Bool} (hg:o.guard=some (j,want)) (hj:(ops[j]?).bind (·.dst)=some t) (ht:Nat.blt t n.sz=true) (hb:Kf e t=some (.bool b)) (hne:(b == want)=false) (F:Fr n a e) (hd:o.dst=some d) (hn:Nat.blt d n.sz=true)
    (k:∀ a',Fr n a' ((d,undef)::e)→WL P ρ ops fr g cks M rest a' w):WL P ρ ops fr g cks M (o::rest) a w:=by
  cases M with
  | l Q=>exact wl_skip hg hj ht hb hne F hd hn k
  | q Q=>exact Hc hg hj ht hb hne F hd hn k
theorem wL_skipu {j t:Nat} {want:Bool} (hg:o.guard=some (j,want)) (hj:(ops[j]?).bind (·.dst)=some t) (ht:Nat.blt t n.sz=true) (hb:Kf e t=some undef) (F:Fr n a e) (hd:o.dst=some d) (hn:Nat.blt d n.sz=true)
    (k:∀ a',Fr n a' ((d,undef)::e)→WL P ρ ops fr g cks M rest a' w):WL P ρ ops fr g cks M (o::rest) a w:=by
  cases M with
  | l Q=>exact wl_skipu hg hj ht hb F hd hn k
  | q Q=>exact wq_skipu hg hj ht hb F hd hn k
end
theorem sc_seq {x y:Code} (h:SC P ρ n (Exit.then (y.wpIn (RW ρ) 0 P Q) Q) fr g cks e x):SC P ρ n Q fr g cks e (.seq x y):=⟨fun a w F S=>Cy (h.h a w F S)⟩
theorem sc_region {id:Nat} {l:List Oper} (h:SL P ρ n l.toArray (.l Q) fr g cks e l):SC P ρ n Q fr g cks e (.region id l.toArray false):=⟨fun a w F S=>B1 (h.h a w F S)⟩
theorem sc_quiet {id:Nat} {l:List Oper} (hm:P.follows .mixedOrders=true) (hB:Region.lexB .any l.toArray=true) (h:SL P Option.none n l.toArray (.q (fun a'=>∀ w',St g cks fr w'→Q .normal a' w')) fr g cks e l):SC P Option.none n Q fr g cks e (.region id l.toArray true):=⟨fun a w F S=>Ow hm hB S (h.h a w F S)⟩
theorem sc_skip (h:SE n fr g cks e (Q .normal)):SC P ρ n Q fr g cks e .skip:=⟨fun a w F S=>Dm (h.h a w F S)⟩
theorem sc_ret (h:SE n fr g cks e (Q .ret)):SC P ρ n Q fr g cks e .ret:=⟨fun a w F S=>G8 (h.h a w F S)⟩
theorem sc_exit {i:Nat} (h:SE n fr g cks e (Q (.exit i))):SC P ρ n Q fr g cks e (.exit i):=⟨fun a w F S=>Mp (h.h a w F S)⟩
theorem sc_block {i:Nat} {c:Code} (h:SC P ρ n (Exit.inBlock i Q) fr g cks e c):SC P ρ n Q fr g cks e (.block i c):=⟨fun a w F S=>El (h.h a w F S)⟩
theorem sc_T {c:Operand} {x y:Code} {b:Bool} (hc:Bn e c=some (.bool b)) (hb:b=true) (h:SC P ρ n Q fr g cks e x):SC P ρ n Q fr g cks e (.cond c x y):=⟨fun a w F S=>Cl F hc hb (h.h a w F S)⟩
theorem sc_F {c:Operand} {x y:Code} {b:Bool} (hc:Bn e c=some (.bool b)) (hb:b=false) (h:SC P ρ n Q fr g cks e y):SC P ρ n Q fr g cks e (.cond c x y):=⟨fun a w F S=>Ck F hc hb (h.h a w F S)⟩
theorem sl_nil (h:SE n fr g cks e (Q .normal)):SL P ρ n ops (.l Q) fr g cks e []:=⟨fun a w F S=>Av (P:=P) (ρ:=ρ) (ops:=ops) (h.h a w F S)⟩
theorem sq_nil {Q':Act→World→Prop} (h:SE n fr g cks e Q'):SL P ρ n ops (.q (fun a'=>∀ w',St g cks fr w'→Q' a' w')) fr g cks e []:=⟨fun a _ F _=>L8 (P:=P) (ops:=ops) (C:=St g cks fr) (Q:=fun a'=>∀ w',St g cks fr w'→Q' a' w') (fun w' S'=>h.h a w' F S')⟩
theorem se_seq {y:Code} {Q':Exit→Act→World→Prop} (h:SC P ρ n Q fr g cks e y):SE n fr g cks e (Exit.then (y.wpIn (RW ρ) 0 P Q) Q' .normal):=⟨fun a w F S=>Aw (h.h a w F S)⟩
theorem se_n (h:SE n fr g cks e K):SE n fr g cks e (Exit.then K Q .normal):=⟨fun a w F S=>Aw (h.h a w F S)⟩
theorem se_e {i:Nat} (h:SE n fr g cks e (Q (.exit i))):SE n fr g cks e (Exit.then K Q (.exit i)):=⟨fun a w F S=>Kg (h.h a w F S)⟩
theorem se_r (h:SE n fr g cks e (Q .ret)):SE n fr g cks e (Exit.then K Q .ret):=⟨fun a w F S=>Ht (h.h a w F S)⟩
theorem se_bn {i:Nat} (h:SE n fr g cks e (Q .normal)):SE n fr g cks e (Exit.inBlock i Q .normal):=⟨fun a w F S=>L7 (h.h a w F S)⟩
theorem se_bx {i:Nat} (h:SE n fr g cks e (Q .normal)):SE n fr g cks e (Exit.inBlock i Q (.exit i)):=⟨fun a w F S=>Tu (h.h a w F S)⟩
theorem se_be {i j:Nat} (hne:Nat.beq j i=false) (h:SE n fr g cks e (Q (.exit j))):SE n fr g cks e (Exit.inBlock i Q (.exit j)):=⟨fun a w F S=>inb_e hne (h.h a w F S)⟩
theorem se_br {i:Nat} (h:SE n fr g cks e (Q .ret)):SE n fr g cks e (Exit.inBlock i Q .ret):=⟨fun a w F S=>Nu (h.h a w F S)⟩
theorem leX {a b:Gh} (h:Le a b:=by first | exact Le.refl _ | assumption | (refine Le.trans ?_ (by assumption);exact leX)):Le a b:=h
theorem shX {α:Type} [Rep α] {g:Gh} {l:List α} {v:Value} (h:RepSl g l v:=by first | assumption | exact RepSl.nil _ | (refine RepSl.mono ?_ (by assumption);exact leX)):RepSl g l v:=h
theorem owX {α:Type} [Rep α] {g:Gh} {l:List α} {v:Value} {c:Hl} (h:OwnS g l v c:=by first | assumption | exact OwnS.nil _ | (refine OwnS.mono ?_ (by assumption);exact leX)):OwnS g l v c:=h
theorem onX {α:Type} [Rep α] [ORep α] {g:Gh} {l:List α} {v:Value} {c:Hl} (h:OwnN g l v c:=by first | assumption | exact OwnN.nil _ | (refine OwnN.mono ?_ (by assumption);exact leX)):OwnN g l v c:=h
theorem ptX {g:Gh} {p:Value} {cs:List Value} (h:PtrC g p cs:=by first | assumption | (refine PtrC.mono ?_ (by assumption);exact leX)):PtrC g p cs:=h
structure PtO (g:Gh) (p:Value) (c:Hl) (cs:List Value):Prop where
  h:∀ (cks:List Hl) (fr:Hl) (k:Nat),cks[k]? = some c→∀ w,St g cks fr w→PtrW w p cs
theorem PtO.mono {g g':Gh} {p:Value} {c:Hl} {cs:List Value} (hl:Le g g') (h:PtO g p c cs):PtO g' p c cs:=⟨fun cks fr k hk w S=>h.h cks fr k hk w (S.weak hl)⟩
theorem ptoX {g:Gh} {p:Value} {c:Hl} {cs:List Value} (h:PtO g p c cs:=by first | assumption | (refine PtO.mono ?_ (by assumption);exact leX)):PtO g p c cs:=h
theorem elemPO {α:Type} [Rep α] {g:Gh} {l:List α} {v:Value} {c:Hl} {i:Int} {x:α} (hr:OwnS g l v c) (hi:at? l i=some x):∃ cs,Rep.rep g x cs∧PtO g (Eq v i (Rep.n α)) c cs:=by
  obtain ⟨cs,h1,h2⟩:=Vj hr hi
  exact ⟨cs,h1,⟨h2⟩⟩
def nums:List Nat:=[0,1,2,3,4,5,6,7,8,9,10,11,12,13,14,15,16,17,18,19,20,21,22,23,24,25,26,27,28,29,30,31,32,33,34,35,36,37,38,39,40,41,42,43,44,45,46,47,48,49,50,51,52,53,54,55,56,57,58,59,60,61,62,63,64,65,66,67,68,69,70,71,72,73,74,75,76,77,78,79,80,81,82,83,84,85,86,87,88,89,90,91,92,93,94,95,96,97,98,99,100,101,102,103,104,105,106,107,108,109,110,111,112,113,114,115,116,117,118,119,120,121,122,123,124,125,126,127,128,129,130,131,132,133,134,135,136,137,138,139,140,141,142,143,144,145,146,147,148,149,150,151,152,153,154,155,156,157,158,159,160,161,162,163,164,165,166,167,168,169,170,171,172,173,174,175,176,177,178,179,180,181,182,183,184,185,186,187,188,189,190,191,192,193,194,195,196,197,198,199,200,201,202,203,204,205,206,207,208,209,210,211,212,213,214,215,216,217,218,219,220,221,222,223,224,225,226,227,228,229,230,231,232,233,234,235,236,237,238,239,240,241,242,243,244,245,246,247,248,249,250,251,252,253,254,255,256,257,258,259,260,261,262,263,264,265,266,267,268,269,270,271,272,273,274,275,276,277,278,279,280,281,282,283,284,285,286,287,288,289,290,291,292,293,294,295,296,297,298,299,300,301,302,303,304,305,306,307,308,309,310,311,312,313,314,315,316,317,318,319]
class InB (cks:List Hl) (b:Nat) (l:outParam (List Value)) (f:outParam (List Value→List Hl)):Prop where
  h:∃ (k:Nat) (t:TypeId),cks[k]? = some [(b,.cells l.toArray t (0,0))]∧∀ l':List Value,cks.set k [(b,.cells l'.toArray t (0,0))]=f l'
instance inHd {b:Nat} {l:List Value} {t:TypeId} {r:List Hl}:InB ([(b,.cells l.toArray t (0,0))]::r) b l (fun l'=>[(b,.cells l'.toArray t (0,0))]::r):=⟨0,t,rfl,fun _=>rfl⟩
instance (priority:=low) inTl {b:Nat} {l:List Value} {f:List Value→List Hl} {c:Hl} {r:List Hl} [i:InB r b l f]:InB (c::r) b l (fun l'=>c::f l'):=by
  obtain ⟨k,t,h1,h2⟩:=i.h
  exact ⟨k+1,t,by simpa using h1,fun l'=>by rw [List.set_cons_succ,h2]⟩
class TakeL (l:List Value) (k m:Nat) (o:outParam (List Value)):Prop where
  h:(l.drop k).take m=o∧k+m≤l.length∧o.length=m
instance tk0 {l:List Value}:TakeL l 0 0 []:=⟨by simp⟩
instance tk1 {x:Value} {r o:List Value} {m:Nat} [i:TakeL r 0 m o]:TakeL (x::r) 0 (m+1) (x::o):=⟨by
  obtain ⟨h1,h2,h3⟩:=i.h
  simp at h1 h2
  simp [h1,h2,h3]⟩
instance tk2 {x:Value} {r o:List Value} {k m:Nat} [i:TakeL r k m o]:TakeL (x::r) (k+1) m o:=⟨by
  obtain ⟨h1,h2,h3⟩:=i.h
  simp [h1,h3];omega⟩
class SetL (l us:List Value) (k:Nat) (o:outParam (List Value)):Prop where
  h:l.take k++us++l.drop (k+us.length)=o∧k+us.length≤l.length
instance sl0 {l:List Value}:SetL l [] 0 l:=⟨by simp⟩
instance sl1 {x u:Value} {r us o:List Value} [i:SetL r us 0 o]:SetL (x::r) (u::us) 0 (u::o):=⟨by
  obtain ⟨h1,h2⟩:=i.h
  simp at h1 h2
  simp [h1,h2]⟩
instance sl2 {x:Value} {r us o:List Value} {k:Nat} [i:SetL r us k o]:SetL (x::r) us (k+1) (x::o):=⟨by
  obtain ⟨h1,h2⟩:=i.h
  refine ⟨?_,by simp;omega⟩
  rw [show k+1+us.length=(k+us.length)+1 from by omega]
  simp [← h1]⟩
structure Pick (c:Hl) (l r:List Hl):Prop where
  h:∀ fr,(fl l fr).Perm (c++fl r fr)
theorem Hn {c:Hl} {r:List Hl}:Pick c (c::r) r:=⟨fun _=>Ko _⟩
theorem De {c d:Hl} {l r:List Hl} (h:Pick c l r):Pick c (d::l) (d::r):=⟨fun fr=>by
  show (d++fl l fr).Perm (c++(d++fl r fr))
  refine (Ee d (h.h fr)).trans ?_
  rw [← Am,← Am]
  exact E2 _ E5⟩
theorem pick_no {l:List Hl}:Pick [] l l:=⟨fun _=>Ko _⟩
theorem pkX {c:Hl} {l r:List Hl} (h:Pick c l r:=by first | exact pick_no | exact Hn | (apply De;exact pkX) | fail):Pick c l r:=h
structure Sel (l t r:List Hl):Prop where
  h:∀ fr,(fl l fr).Perm (fl t (fl r fr))
theorem sel_nil {l:List Hl}:Sel l [] l:=⟨fun _=>Ko _⟩
theorem sel_cons {c:Hl} {l t r r':List Hl} (h:Pick c l r) (h':Sel r t r'):Sel l (c::t) r':=⟨fun fr=>(h.h fr).trans (Ee c (h'.h fr))⟩
theorem sel2 {c:Hl} {l t r':List Hl} (h:∃ r,Pick c l r∧Sel r t r'):Sel l (c::t) r':=by
  obtain ⟨r,h1,h2⟩:=h
  exact sel_cons h1 h2
theorem selX {l t r:List Hl} (h:Sel l t r:=by first | exact sel_nil | (apply sel2;apply Exists.intro;apply And.intro;(focus exact pkX);exact selX) | fail):Sel l t r:=h
theorem St.unsel {w:World} {t r:List Hl} (S:St g t (fl r fr) w) (h:Sel cks t r:=by exact selX):St g cks fr w:=St0.perm S (h.h fr).symm
theorem St.selF {w:World} {t r:List Hl} (S:St g cks fr w) (h:Sel cks t r):St g t (fl r fr) w:=St0.perm S (h.h fr)
theorem St.selD {w:World} {t r:List Hl} (S:St g cks fr w) (h:Sel cks t r):St g t fr w:=by
  have h1:St0 g (fl t (fl r fr)) w:=St0.perm S (h.h fr)
  have h2:(fl t (fl r fr)).Perm (fl r (fl t fr)):=by
    have key:∀ (x y:List Hl),(fl x (fl y fr)).Perm (fl y (fl x fr)):=by
      intro x y
      have hp:∀ (z:List Hl) (q:Hl),fl z q=z.flatten++q:=by
        intro z q
        induction z with
        | nil=>rfl
        | cons c z ih=>simp [fl,ih]
      rw [hp,hp,hp,hp,← Am,← Am]
      exact E2 _ E5
    exact key t r
  exact St.tail [] r (St0.perm h1 h2)
theorem PtO.at {p:Value} {c:Hl} {cs:List Value} {r:List Hl} (h:PtO g p c cs) (hk:Pick c cks r):∀ w,St g cks fr w→PtrW w p cs:=fun w S=>h.h (c::r) fr 0 rfl w (St0.perm S (hk.h fr))
theorem po2 {p:Value} {cs:List Value} (h:∃ c r,PtO g p c cs∧Pick c cks r):∀ w,St g cks fr w→PtrW w p cs:=by
  obtain ⟨c,r,h1,h2⟩:=h
  exact PtO.at h1 h2
theorem poX {p:Value} {cs:List Value} (h:∀ w,St g cks fr w→PtrW w p cs:=by
  first
  | (apply po2;apply Exists.intro;apply Exists.intro;apply And.intro;(focus exact ptoX);exact pkX)
  | fail):∀ w,St g cks fr w→PtrW w p cs:=h
def Frz {α:Type} [Rep α] (g:Gh) (l:List α) (v:Value) (c:Hl):Prop:=∀ o w,St0 g (c++o) w→RepSl (g.add c) l v
theorem fr1 {α:Type} [Rep α] {l:List α} {v:Value} {c:Hl} (h:OwnS g l v c):Frz g l v c:=fun _ _ S=>OwnS.freeze S h
theorem fr2 {α:Type} [Rep α] [ORep α] {l:List α} {v:Value} {c:Hl} (h:OwnN g l v c):Frz g l v c:=fun _ _ S=>OwnN.freeze S h
theorem owY {α:Type} [Rep α] {g:Gh} {l:List α} {v:Value} {c:Hl} (h:OwnS g l v c:=by first | assumption | (refine OwnS.mono ?_ (by assumption);exact leX) | fail):OwnS g l v c:=h
theorem onY {α:Type} [Rep α] [ORep α] {g:Gh} {l:List α} {v:Value} {c:Hl} (h:OwnN g l v c:=by first | assumption | (refine OwnN.mono ?_ (by assumption);exact leX) | fail):OwnN g l v c:=h
theorem frX {α:Type} [Rep α] {l:List α} {v:Value} {c:Hl} (h:Frz g l v c:=by first | exact fr1 owY | exact fr2 onY | fail):Frz g l v c:=h
theorem frz {α:Type} [Rep α] {w:World} {c:Hl} {r:List Hl} {l:List α} {v:Value} (S:St g cks fr w) (hp:Pick c cks r) (h:Frz g l v c):∃ g',Le g g'∧St g' r fr w∧RepSl g' l v:=by
  have S':St0 g (c++fl r fr) w:=St0.perm S (hp.h fr)
  exact ⟨_,Le.add _ _,S'.freeze,h _ _ S'⟩
class TyU (P:Program) (T:Nat) (t:outParam TypeDesc):Prop where
  h:P.underlying T=some t
class TyS (P:Program) (T:Nat) (z:outParam Nat):Prop where
  h:(P.info? T).map (·.size)=some z
class TyF (P:Program) (T i:Nat) (k z:outParam Nat) (ag:outParam Bool):Prop where
  h:∃ fs ft t,P.underlying T=some (.struct fs)∧(fs[i]?).map (fun f=>(f.offset,f.type))=some (k,ft)∧(P.info? ft).map (·.size)=some z∧P.underlying ft=some t∧W9 t=ag
theorem TyF.mk' {T i k ft z:Nat} {fs:Array Field} {t:TypeDesc} {ag:Bool} (h1:P.underlying T=some (.struct fs)) (h2:(fs[i]?).map (fun f=>(f.offset,f.type))=some (k,ft)) (h3:(P.info? ft).map (·.size)=some z) (h4:P.underlying ft=some t) (h5:W9 t=ag):TyF P T i k z ag:=⟨fs,ft,t,h1,h2,h3,h4,h5⟩
class TyZ (P:Program) (T:Nat) (cs:outParam (List Value)):Prop where
  h:∃ z,(P.info? T).bind (·.zero)=some z∧z.cells=cs.toArray
class TyA (P:Program) (T:Nat) (α:outParam Type):Prop where
  h:True:=trivial
class TyE (P:Program) (T:Nat) (m b:outParam Nat):Prop where
  h:∃ z,ElemT P T m b z∧b≤1000000∧0 < b
theorem clA {cs:List Value}:(Value.agg cs.toArray).cells.toList=cs:=rfl
theorem clI {k:IntKind} {x:Int}:(Value.int k x).cells.toList=[.int k x]:=rfl
theorem clB {x:Bool}:(Value.bool x).cells.toList=[.bool x]:=rfl
theorem clS {x:ByteArray}:(Value.string x).cells.toList=[.string x]:=rfl
theorem clN {a:Option Addr} {m c:Nat}:(Value.slice a m c).cells.toList=[.slice a m c]:=rfl
theorem clX {v:Value} {us:List Value} (h:v.cells.toList=us:=by first | with_reducible exact clA | with_reducible exact clI | with_reducible exact clB | with_reducible exact clS | with_reducible exact clN | exact RepSl.cl shX | exact OwnS.cl owX | exact OwnN.cl onX):v.cells.toList=us:=h
theorem o1X {v:Value} (h:Tq v=true:=by first | exact rfl | exact RepSl.one shX | exact OwnS.one owX | exact OwnN.one onX | exact RepH.one (by assumption)):Tq v=true:=h
theorem onsX {us:List Value} (h:∀ u∈us,Tq u=true:=by repeat (first | exact E0 | refine Ba o1X ?_)):∀ u∈us,Tq u=true:=h
section
variable {C : World → Prop} {T T' : TypeId} {t : TypeDesc} {x y : Operand} {b off k z o i : Nat} {l cs : List Value} {f : List Value → List Hl} {v p : Value}
theorem ea_loadB (hx:Bn e x=some (bp b off)) [i:InB cks b l f] [u:TyU P T t] (hd:W9 t=false:=by exact rfl) (hv:l[off]? = some v:=by exact rfl):Ev P n e (fun w=>St g cks fr w) (.load T x) v:=by
  have hl:off < l.length:=by
    rcases Ec off l.length with h | h
    · exact h
    · rw [List.getElem?_eq_none h] at hv;cases hv
  obtain ⟨k,t',h1,_⟩:=i.h
  refine Gs u.h hd hx (Ur k h1 off ?_ hl)
  rw [A3 hl] at hv
  cases hv
  rw [Cq hl];rfl
theorem ea_loadA (hx:Bn e x=some (bp b off)) [i:InB cks b l f] [u:TyU P T t] (hd:W9 t=true:=by exact rfl) [s:TyS P T z] [q:TakeL l off z cs]:Ev P n e (fun w=>St g cks fr w) (.load T x) (.agg cs.toArray):=by
  obtain ⟨h1,h2,h3⟩:=q.h
  obtain ⟨k,t',h4,_⟩:=i.h
  subst h3
  exact Lg u.h hd s.h hx (Ur k h4 off h1 h2)
theorem ea_loadC (hx:Bn e x=some p) [u:TyU P T t] (hd:W9 t=false:=by exact rfl) (hp:PtrC g p cs:=by exact ptX) (hv:cs[0]? = some v:=by exact rfl):Ev P n e (fun w=>St g cks fr w) (.load T x) v:=by
  cases cs with
  | nil=>cases hv
  | cons c cs =>
    cases hv
    refine Gs u.h hd hx fun _ S=>?_
    have:=(PtrC.field hp 0 1 (by simp)).at S
    simpa [Uu] using this
theorem ea_loadCf (hx:Bn e x=some (N8 p k)) [u:TyU P T t] (hd:W9 t=false:=by exact rfl) (hp:PtrC g p cs:=by exact ptX) (hv:cs[k]? = some v:=by exact rfl):Ev P n e (fun w=>St g cks fr w) (.load T x) v:=by
  have hl:k < cs.length:=by
    rcases Ec k cs.length with h | h
    · exact h
    · rw [List.getElem?_eq_none h] at hv;cases hv
  refine Gs u.h hd hx fun _ S=>?_
  have:=(PtrC.field hp k 1 hl).at S
  rw [A3 hl] at hv
  cases hv
  rw [Cq hl] at this
  exact this
theorem ea_loadCA (hx:Bn e x=some p) [u:TyU P T t] (hd:W9 t=true:=by exact rfl) [s:TyS P T z] (hp:PtrC g p cs:=by exact ptX) [q:TakeL cs 0 z l]:Ev P n e (fun w=>St g cks fr w) (.load T x) (.agg l.toArray):=by
  obtain ⟨h1,h2,h3⟩:=q.h
  subst h3
  refine Lg u.h hd s.h hx fun _ S=>?_
  have:=(PtrC.field hp 0 l.length h2).at S
  rw [h1,Uu] at this
  exact this
theorem ea_loadCAf (hx:Bn e x=some (N8 p k)) [u:TyU P T t] (hd:W9 t=true:=by exact rfl) [s:TyS P T z] (hp:PtrC g p cs:=by exact ptX) [q:TakeL cs k z l]:Ev P n e (fun w=>St g cks fr w) (.load T x) (.agg l.toArray):=by
  obtain ⟨h1,h2,h3⟩:=q.h
  subst h3
  refine Lg u.h hd s.h hx fun _ S=>?_
  have:=(PtrC.field hp k l.length h2).at S
  rw [h1] at this
  exact this
theorem ea_loadW (hx:Bn e x=some p) [u:TyU P T t] (hd:W9 t=false:=by exact rfl) (hp:∀ w,St g cks fr w→PtrW w p cs:=by exact poX) (hv:cs[0]? = some v:=by exact rfl):Ev P n e (fun w=>St g cks fr w) (.load T x) v:=by
  cases cs with
  | nil=>cases hv
  | cons c cs =>
    cases hv
    refine Gs u.h hd hx fun w S=>?_
    have:=(hp w S).field 0 1 (by simp)
    simpa [Uu] using this
theorem ea_loadWf (hx:Bn e x=some (N8 p k)) [u:TyU P T t] (hd:W9 t=false:=by exact rfl) (hp:∀ w,St g cks fr w→PtrW w p cs:=by exact poX) (hv:cs[k]? = some v:=by exact rfl):Ev P n e (fun w=>St g cks fr w) (.load T x) v:=by
  have hl:k < cs.length:=by
    rcases Ec k cs.length with h | h
    · exact h
    · rw [List.getElem?_eq_none h] at hv;cases hv
  refine Gs u.h hd hx fun w S=>?_
  have:=(hp w S).field k 1 hl
  rw [A3 hl] at hv
  cases hv
  rw [Cq hl] at this
  exact this
theorem ea_loadWA (hx:Bn e x=some p) [u:TyU P T t] (hd:W9 t=true:=by exact rfl) [s:TyS P T z] (hp:∀ w,St g cks fr w→PtrW w p cs:=by exact poX) [q:TakeL cs 0 z l]:Ev P n e (fun w=>St g cks fr w) (.load T x) (.agg l.toArray):=by
  obtain ⟨h1,h2,h3⟩:=q.h
  subst h3
  refine Lg u.h hd s.h hx fun w S=>?_
  have:=(hp w S).field 0 l.length h2
  rw [h1,Uu] at this
  exact this
theorem ea_loadWAf (hx:Bn e x=some (N8 p k)) [u:TyU P T t] (hd:W9 t=true:=by exact rfl) [s:TyS P T z] (hp:∀ w,St g cks fr w→PtrW w p cs:=by exact poX) [q:TakeL cs k z l]:Ev P n e (fun w=>St g cks fr w) (.load T x) (.agg l.toArray):=by
  obtain ⟨h1,h2,h3⟩:=q.h
  subst h3
  refine Lg u.h hd s.h hx fun w S=>?_
  have:=(hp w S).field k l.length h2
  rw [h1] at this
  exact this
theorem ea_slice {s s':ByteArray} {lo hi:Option Operand} {a b:Int} (hx:Bn e x=some (.string s)) [u:TyU P T .string] (hlo:bnd e lo 0 a:=by first | exact bnd0 _ | exact bndV rfl) (hhi:bnd e hi s.size b:=by first | exact bnd0 _ | exact bndV rfl) (hc:scut? s a b=some s':=by assumption):Ev P n e C (.slice T x lo hi Option.none) (.string s'):=ev_scut hc u.h hx hlo hhi
theorem ea_sAt {s:ByteArray} {j q:Int} {ik:IntKind} (hx:Bn e x=some (.string s)) (hy:Bn e y=some (.int ik j)) [u:TyU P T .string] (hc:sAt? s j=some q:=by assumption):Ev P n e C (.index T x y) (.int .u8 q):=ev_sAt hc u.h hx hy
theorem ea_conv {ik ik':IntKind} {q r:Int} (hx:Bn e x=some (.int ik q)) [u:TyU P T (.int ik)] [u':TyU P T' (.int ik')] (hc:ckK ik' q=some r:=by assumption):Ev P n e C (.convert T T' x) (.int ik' r):=ev_conv hc u.h u'.h hx
theorem ea_convS {s:ByteArray} (hx:Bn e x=some (.string s)) [u:TyU P T .string] [u':TyU P T' .string]:Ev P n e C (.convert T T' x) (.string s):=ev_convS u.h u'.h hx
theorem ea_eqB {U:Nat} {a b:Bool} (hx:Bn e x=some (.bool a)) (hy:Bn e y=some (.bool b)) [u:TyU P T .bool]:Ev P n e C (.binOp .eql T x y U) (.bool (decide (a=b))):=ev_eqB u.h hx hy
theorem ea_neB {U:Nat} {a b:Bool} (hx:Bn e x=some (.bool a)) (hy:Bn e y=some (.bool b)) [u:TyU P T .bool]:Ev P n e C (.binOp .neq T x y U) (.bool (!decide (a=b))):=ev_neB u.h hx hy
theorem al_nil {xs ys:List Value}:Uv P xs ys [] []:=rfl
theorem al_cons {xs ys : List Value} {nm : String} {ft o : Nat} {a c : Value} {b : Bool} {fs : List (String × TypeId × Nat)} {bs : List Bool} (hx : xs[o]? = some a) (hy : ys[o]? = some c) (hl : LeafEq P ft a c b) (r : Uv P xs ys fs bs) (hn : nm ≠ "_" := by decide) : Uv P xs ys ((nm, ft, o) :: fs) (b :: bs) := ⟨b, bs, rfl, hn, ⟨a, c, hx, hy, hl⟩, r⟩
theorem lfX {ft:Nat} {a c:Value} {b:Bool} (h:LeafEq P ft a c b:=by first | exact Xc (TyU.h) | exact leaf_bool (TyU.h) | exact leaf_str (TyU.h)):LeafEq P ft a c b:=h
theorem alX {xs ys:List Value} {fs:List (String×TypeId×Nat)} {bs:List Bool} (h:Uv P xs ys fs bs:=by first | exact al_nil | exact al_cons rfl rfl lfX alX):Uv P xs ys fs bs:=h
theorem isX {v:Value} (h:T8 v:=by first | exact RepSl.isSl shX | exact OwnS.isSl owX | exact OwnN.isSl onX | exact isSl_nil):T8 v:=h
theorem ea_fieldB {ag:Bool} (hx:Bn e x=some (bp b off)) [u:TyF P T i k (z+1) ag] (ho:nums[off+k]? = some o:=by exact rfl) (ho':off+k=o:=by exact rfl):Ev P n e C (.fieldAddr T x i) (bp b o):=by
  obtain ⟨fs,ft,t,h1,h2,h3,_⟩:=u.h
  subst ho'
  exact E6 h1 h2 h3 hx ⟨_,rfl⟩ (addP_mk _ _ _)
theorem ea_fieldC {ag:Bool} (hx:Bn e x=some p) (hp:∃ a,p=.pointer (some a):=by first | exact PtrC.ptr ptX | exact addP_ptr (PtrC.ptr ptX) | exact ⟨_,rfl⟩ | assumption) [u:TyF P T i k (z+1) ag]:Ev P n e C (.fieldAddr T x i) (N8 p k):=by
  obtain ⟨fs,ft,t,h1,h2,h3,_⟩:=u.h
  exact E6 h1 h2 h3 hx hp rfl
theorem ea_field1 (hx:Bn e x=some (.agg cs.toArray)) [u:TyF P T i k z false] (hv:cs[k]? = some v:=by exact rfl):Ev P n e C (.field T x i) v:=by
  obtain ⟨fs,ft,t,h1,h2,h3,h4,h5⟩:=u.h
  exact ev_field1 h1 h2 h4 h5 hx hv
theorem ea_idxArrB {E len z:Nat} {j:Int} {ik:IntKind} (hx:Bn e x=some (bp b off)) (hy:Bn e y=some (.int ik j)) [u:TyU P T (.array len E)] [s:TyS P E z] (hi:(decide (0≤j) && decide (j < len))=true:=by exact rfl) (ho:nums[off+j.toNat * z]? = some o:=by exact rfl) (ho':off+j.toNat * z=o:=by exact rfl):Ev P n e C (.indexAddr T x y) (bp b o):=by
  simp only [Cv,Bs] at hi
  subst ho'
  exact ev_idxArr u.h s.h hi hx hy ⟨_,rfl⟩ rfl (addP_mk _ _ _)
theorem ea_idxArrC {E len z:Nat} {j:Int} {ik:IntKind} (hx:Bn e x=some p) (hy:Bn e y=some (.int ik j)) (hp:∃ a,p=.pointer (some a):=by first | exact PtrC.ptr ptX | exact addP_ptr (PtrC.ptr ptX) | exact ⟨_,rfl⟩ | assumption) [u:TyU P T (.array len E)] [s:TyS P E z] (hi:(decide (0≤j) && decide (j < len))=true:=by exact rfl) (ho:nums[j.toNat * z]? = some o:=by exact rfl) (ho':o=j.toNat * z:=by exact rfl):Ev P n e C (.indexAddr T x y) (N8 p o):=by
  simp only [Cv,Bs] at hi
  exact ev_idxArr u.h s.h hi hx hy hp ho' rfl
theorem ea_ixI {E len:Nat} {xs:List Int} {ik ik':IntKind} {j r:Int} (hx:Bn e x=some (.agg cs.toArray)) (hy:Bn e y=some (.int ik j)) [t1:TyU P T (.array len E)] [t2:TyU P E (.int ik')] [t3:TyS P E 1] (h:at? xs j=some r:=by assumption) (hl:xs.length=len:=by exact rfl) (hc:xs.map (Value.int ik')=cs:=by exact rfl):Ev P n e C (.index T x y) (.int ik' r):=ev_indexAI h t1.h t2.h t3.h hl hc hx hy
theorem ea_idxS {α:Type} [Rep α] {E m:Nat} {l:List α} {j:Int} {q:α} {ik:IntKind} (hx:Bn e x=some v) (hy:Bn e y=some (.int ik j)) (hr:RepSl g l v:=by exact shX) (hi:at? l j=some q:=by assumption) [u:TyU P T (.slice E)] [s:TyS P E m] (hm:m=Rep.n α:=by exact rfl):Ev P n e C (.indexAddr T x y) (Eq v j (Rep.n α)):=by
  subst hm;exact Nm hr hi u.h s.h hx hy
theorem ea_idxO {α:Type} [Rep α] {E m:Nat} {l:List α} {j:Int} {q:α} {ik:IntKind} {c:Hl} (hx:Bn e x=some v) (hy:Bn e y=some (.int ik j)) (hr:OwnS g l v c:=by exact owX) (hi:at? l j=some q:=by assumption) [u:TyU P T (.slice E)] [s:TyS P E m] (hm:m=Rep.n α:=by exact rfl):Ev P n e C (.indexAddr T x y) (Eq v j (Rep.n α)):=by
  subst hm;exact Mn hr hi u.h s.h hx hy
theorem ea_lenS {α:Type} [Rep α] {E:Nat} {l:List α} (hx:Bn e x=some v) (hr:RepSl g l v:=by exact shX) [u:TyU P T (.slice E)]:Ev P n e C (.call { callee:=.builtin .len,args:=#[x],argTypes:=#[T] }) (.int .i64 l.length):=Lw hr hx u.h
theorem ea_lenO {α:Type} [Rep α] {E:Nat} {l:List α} {c:Hl} (hx:Bn e x=some v) (hr:OwnS g l v c:=by exact owX) [u:TyU P T (.slice E)]:Ev P n e C (.call { callee:=.builtin .len,args:=#[x],argTypes:=#[T] }) (.int .i64 l.length):=Lx hr hx u.h
theorem ea_lenStr {s:ByteArray} (hx:Bn e x=some (.string s)) [u:TyU P T .string]:Ev P n e C (.call { callee:=.builtin .len,args:=#[x],argTypes:=#[T] }) (.int .i64 s.size):=Uy hx u.h
theorem ea_not {X:Bool} (hx:Bn e x=some (.bool X)):Ev P n e C (.unOp .not T x) (.bool (!X)):=Vm hx
end
structure App {α:Type} (l r o:List α):Prop where
  h:l++r=o
theorem ap0 {α:Type} {r:List α}:App [] r r:=⟨rfl⟩
theorem ap1 {α:Type} {x:α} {l r o:List α} (h:App l r o):App (x::l) r (x::o):=⟨congrArg (x :: ·) h.h⟩
theorem apX {α:Type} {l r o:List α} (h:App l r o:=by first | exact ap0 | (apply ap1;exact apX) | fail):App l r o:=h
def EvL (e:List (Nat×Value)) (xs:List Operand) (vs:List Value):Prop:=xs.map (Bn e)=vs.map some
theorem evl_nil:EvL e [] []:=rfl
theorem evl_cons {x:Operand} {xs:List Operand} {v:Value} {vs:List Value} (h:Bn e x=some v) (t:EvL e xs vs):EvL e (x::xs) (v::vs):=by
  show Bn e x::_=some v::_
  rw [h];exact congrArg _ t
theorem evlX {xs:List Operand} {vs:List Value} (h:EvL e xs vs:=by first | exact evl_nil | exact evl_cons rfl evlX):EvL e xs vs:=h
theorem ea_mkF {C:World→Prop} {f:FuncId} {xs:List Operand} {vs:List Value} (hxs:EvL e xs vs):Ev P n e C (.makeFunc (.func f) #[] xs.toArray) (.func (.func f) #[] vs.toArray):=Aas hxs
theorem ea_convU {C:World→Prop} {T T':TypeId} {x:Operand} {k:IntKind} {p:Int} {r:UInt8} (hx:Bn e x=some (.int k p)) [u:TyU P T (.int k)] [u':TyU P T' (.int .u8)] (h:some (u8w p)=some r:=by first | assumption | exact rfl):Ev P n e C (.convert T T' x) (.int .u8 (r.toNat:Nat)):=ev_convU h u.h u'.h hx
theorem W5 {C:World→Prop} {op:BinOp} {T U:TypeId} {x y:Operand} {k:IntKind} {p q:Int} {v:Value} (hx:Bn e x=some (.int k p):=by exact rfl) (hy:Bn e y=some (.int k q):=by exact rfl) (hop:∀ w,(binOp op T (.int k p) (.int k q)).run P w=.ok v w):Ev P n e C (.binOp op T x y U) v:=B3 hx hy hop
theorem ea_str {C:World→Prop} {op:BinOp} {T U:TypeId} {x y:Operand} {p q:ByteArray} {v:Value} (hx:Bn e x=some (.string p):=by exact rfl) (hy:Bn e y=some (.string q):=by exact rfl) (hop:∀ w,(binOp op T (.string p) (.string q)).run P w=.ok v w):Ev P n e C (.binOp op T x y U) v:=Yp hx hy hop
theorem tX {b:Bool} (h:b=true:=by first | exact rfl | assumption | decide):b=true:=h
theorem fX {b:Bool} (h:b=false:=by first | exact rfl | assumption | decide):b=false:=h
section
open Go.Proofs
instance:TyE Tryz.prog 133 3 56:=⟨_,te133,by decide,by decide⟩
instance:TyE Tryz.prog 140 2 16:=⟨_,te140,by decide,by decide⟩
instance:TyZ Tryz.prog 182 [.int .i64 0,.string ByteArray.empty]:=⟨_,te182.zero,rfl⟩
instance:TyE Tryz.prog 182 2 24:=⟨_,te182,by decide,by decide⟩
instance:TyE Tryz.prog 22 1 24:=⟨_,te22,by decide,by decide⟩
instance:TyE Tryz.prog 220 5 104:=⟨_,te220,by decide,by decide⟩
instance:TyE Tryz.prog 239 3 24:=⟨_,te239,by decide,by decide⟩
instance:TyE Tryz.prog 26 1 24:=⟨_,te26,by decide,by decide⟩
instance:TyE Tryz.prog 3 1 8:=⟨_,te3,by decide,by decide⟩
instance:TyZ Tryz.prog 5 [.int .u8 0]:=⟨_,te5.zero,rfl⟩
instance:TyE Tryz.prog 5 1 1:=⟨_,te5,by decide,by decide⟩
instance:TyZ Tryz.prog 57 [.slice Option.none 0 0,.int .i64 0,.int .i64 0,.int .i64 0]:=⟨_,te57.zero,rfl⟩
instance:TyE Tryz.prog 57 4 48:=⟨_,te57,by decide,by decide⟩
instance:TyZ Tryz.prog 58 [.slice Option.none 0 0]:=⟨_,te58.zero,rfl⟩
instance:TyE Tryz.prog 58 1 24:=⟨_,te58,by decide,by decide⟩
instance:TyE Tryz.prog 62 5 56:=⟨_,te62,by decide,by decide⟩
instance:TyE Tryz.prog 73 5 88:=⟨_,te73,by decide,by decide⟩
instance:TyZ Tryz.prog 76 [.int .i64 0,.int .i64 0,.slice Option.none 0 0]:=⟨_,te76.zero,rfl⟩
instance:TyE Tryz.prog 76 3 40:=⟨_,te76,by decide,by decide⟩
instance:TyE Tryz.prog 80 2 40:=⟨_,te80,by decide,by decide⟩
instance:TyE Tryz.prog 87 6 64:=⟨_,te87,by decide,by decide⟩
instance:TyZ Tryz.prog 9 [.string ByteArray.empty]:=⟨_,te9.zero,rfl⟩
instance:TyE Tryz.prog 9 1 16:=⟨_,te9,by decide,by decide⟩
instance:TyE Tryz.prog 97 5 56:=⟨_,te97,by decide,by decide⟩
instance:TyF Tryz.prog 133 0 0 1 false:=TyF.mk' Uh tf133_0 ts3 tu3 rfl
instance:TyF Tryz.prog 133 1 1 1 false:=TyF.mk' Uh tf133_1 Xs Kz rfl
instance:TyF Tryz.prog 133 2 2 1 false:=TyF.mk' Uh tf133_2 Xs Kz rfl
instance:TyF Tryz.prog 165 0 0 1 false:=TyF.mk' tu165 tf165_0 ts4 tu4 rfl
instance:TyF Tryz.prog 165 1 1 1 false:=TyF.mk' tu165 tf165_1 Xs Kz rfl
instance:TyF Tryz.prog 182 0 0 1 false:=TyF.mk' tu182 tf182_0 ts3 tu3 rfl
instance:TyF Tryz.prog 182 1 1 1 false:=TyF.mk' tu182 tf182_1 ts9 tu9 rfl
instance:TyF Tryz.prog 195 0 0 1 false:=TyF.mk' Wi Zd Xb M6 rfl
instance:TyF Tryz.prog 195 1 1 1 false:=TyF.mk' Wi tf195_1 ts3 tu3 rfl
instance:TyF Tryz.prog 195 2 2 1 false:=TyF.mk' Wi tf195_2 ts4 tu4 rfl
instance:TyF Tryz.prog 220 0 0 1 false:=TyF.mk' tu220 tf220_0 ts4 tu4 rfl
instance:TyF Tryz.prog 220 1 1 1 false:=TyF.mk' tu220 tf220_1 Xs Kz rfl
instance:TyF Tryz.prog 220 2 2 1 false:=TyF.mk' tu220 tf220_2 Xs Kz rfl
instance:TyF Tryz.prog 220 3 3 1 false:=TyF.mk' tu220 tf220_3 Xs Kz rfl
instance:TyF Tryz.prog 220 4 4 1 false:=TyF.mk' tu220 tf220_4 Xs Kz rfl
instance:TyF Tryz.prog 235 0 0 1 false:=TyF.mk' tu235 X2 ts174 Vx rfl
instance:TyF Tryz.prog 239 0 0 1 false:=TyF.mk' Vg tf239_0 ts3 tu3 rfl
instance:TyF Tryz.prog 239 1 1 1 false:=TyF.mk' Vg tf239_1 ts3 tu3 rfl
instance:TyF Tryz.prog 26 0 0 1 false:=TyF.mk' tu26 tf26_0 ts24 Oi rfl
instance:TyF Tryz.prog 29 0 0 1 false:=TyF.mk' Ux tf29_0 ts3 tu3 rfl
instance:TyF Tryz.prog 39 0 0 1 false:=TyF.mk' tu39 tf39_0 ts36 tu36 rfl
instance:TyF Tryz.prog 39 1 1 1 false:=TyF.mk' tu39 tf39_1 ts27 tu27 rfl
instance:TyF Tryz.prog 39 2 2 1 false:=TyF.mk' tu39 tf39_2 ts22 Q8 rfl
instance:TyF Tryz.prog 39 3 3 1 false:=TyF.mk' tu39 tf39_3 ts22 Q8 rfl
instance:TyF Tryz.prog 39 4 4 1 false:=TyF.mk' tu39 tf39_4 ts22 Q8 rfl
instance:TyF Tryz.prog 39 5 5 1 false:=TyF.mk' tu39 tf39_5 ts36 tu36 rfl
instance:TyF Tryz.prog 39 6 6 1 false:=TyF.mk' tu39 tf39_6 ts37 tu37 rfl
instance:TyF Tryz.prog 55 0 0 1 false:=TyF.mk' tu55 tf55_0 ts22 Q8 rfl
instance:TyF Tryz.prog 55 1 1 1 false:=TyF.mk' tu55 tf55_1 ts36 tu36 rfl
instance:TyF Tryz.prog 55 2 2 1 false:=TyF.mk' tu55 tf55_2 ts52 tu52 rfl
instance:TyF Tryz.prog 55 3 3 1 false:=TyF.mk' tu55 Zq ts53 N9 rfl
instance:TyF Tryz.prog 55 4 4 1 false:=TyF.mk' tu55 tf55_4 ts27 tu27 rfl
instance:TyF Tryz.prog 57 0 0 1 true:=TyF.mk' tu57 tf57_0 ts26 tu26 rfl
instance:TyF Tryz.prog 57 1 1 1 false:=TyF.mk' tu57 tf57_1 ts3 tu3 rfl
instance:TyF Tryz.prog 57 2 2 1 false:=TyF.mk' tu57 tf57_2 ts3 tu3 rfl
instance:TyF Tryz.prog 57 3 3 1 false:=TyF.mk' tu57 tf57_3 ts3 tu3 rfl
instance:TyF Tryz.prog 60 0 0 1 false:=TyF.mk' tu60 tf60_0 ts58 tu58 rfl
instance:TyF Tryz.prog 62 0 0 1 false:=TyF.mk' tu62 tf62_0 ts3 tu3 rfl
instance:TyF Tryz.prog 62 1 1 1 false:=TyF.mk' tu62 tf62_1 ts3 tu3 rfl
instance:TyF Tryz.prog 62 2 2 1 false:=TyF.mk' tu62 tf62_2 ts3 tu3 rfl
instance:TyF Tryz.prog 62 3 3 1 false:=TyF.mk' tu62 tf62_3 ts3 tu3 rfl
instance:TyF Tryz.prog 62 4 4 1 true:=TyF.mk' tu62 tf62_4 ts60 tu60 rfl
instance:TyF Tryz.prog 71 0 0 1 false:=TyF.mk' Wq Vl Xb M6 rfl
instance:TyF Tryz.prog 73 0 0 1 false:=TyF.mk' tu73 tf73_0 ts3 tu3 rfl
instance:TyF Tryz.prog 73 1 1 1 false:=TyF.mk' tu73 tf73_1 ts9 tu9 rfl
instance:TyF Tryz.prog 73 2 2 1 false:=TyF.mk' tu73 tf73_2 ts9 tu9 rfl
instance:TyF Tryz.prog 73 3 3 1 false:=TyF.mk' tu73 tf73_3 Xs Kz rfl
instance:TyF Tryz.prog 73 4 4 1 true:=TyF.mk' tu73 tf73_4 ts71 Wq rfl
instance:TyF Tryz.prog 76 0 0 1 false:=TyF.mk' tu76 tf76_0 ts3 tu3 rfl
instance:TyF Tryz.prog 76 1 1 1 false:=TyF.mk' tu76 tf76_1 ts3 tu3 rfl
instance:TyF Tryz.prog 76 2 2 1 true:=TyF.mk' tu76 tf76_2 ts60 tu60 rfl
instance:TyF Tryz.prog 80 0 0 1 false:=TyF.mk' tu80 tf80_0 ts9 tu9 rfl
instance:TyF Tryz.prog 80 1 1 1 false:=TyF.mk' tu80 tf80_1 Xs Kz rfl
instance:TyF Tryz.prog 87 0 0 1 false:=TyF.mk' tu87 tf87_0 ts3 tu3 rfl
instance:TyF Tryz.prog 87 1 1 1 false:=TyF.mk' tu87 tf87_1 ts3 tu3 rfl
instance:TyF Tryz.prog 87 2 2 1 false:=TyF.mk' tu87 tf87_2 ts3 tu3 rfl
instance:TyF Tryz.prog 87 3 3 1 false:=TyF.mk' tu87 tf87_3 ts3 tu3 rfl
instance:TyF Tryz.prog 87 4 4 1 false:=TyF.mk' tu87 tf87_4 ts3 tu3 rfl
instance:TyF Tryz.prog 87 5 5 1 true:=TyF.mk' tu87 tf87_5 ts60 tu60 rfl
instance:TyF Tryz.prog 97 0 0 1 false:=TyF.mk' tu97 tf97_0 ts3 tu3 rfl
instance:TyF Tryz.prog 97 1 1 1 false:=TyF.mk' tu97 tf97_1 ts3 tu3 rfl
instance:TyF Tryz.prog 97 2 2 1 false:=TyF.mk' tu97 tf97_2 ts3 tu3 rfl
instance:TyF Tryz.prog 97 3 3 1 false:=TyF.mk' tu97 tf97_3 ts3 tu3 rfl
instance:TyF Tryz.prog 97 4 4 1 true:=TyF.mk' tu97 tf97_4 ts60 tu60 rfl
instance:TyS Tryz.prog 133 3:=⟨Y6⟩
instance:TyS Tryz.prog 140 2:=⟨ts140⟩
instance:TyS Tryz.prog 165 2:=⟨ts165⟩
instance:TyS Tryz.prog 174 1:=⟨ts174⟩
instance:TyS Tryz.prog 182 2:=⟨ts182⟩
instance:TyS Tryz.prog 22 1:=⟨ts22⟩
instance:TyS Tryz.prog 220 5:=⟨ts220⟩
instance:TyS Tryz.prog 239 3:=⟨Y4⟩
instance:TyS Tryz.prog 24 1:=⟨ts24⟩
instance:TyS Tryz.prog 26 1:=⟨ts26⟩
instance:TyS Tryz.prog 27 1:=⟨ts27⟩
instance:TyS Tryz.prog 29 2:=⟨O0⟩
instance:TyS Tryz.prog 3 1:=⟨ts3⟩
instance:TyS Tryz.prog 36 1:=⟨ts36⟩
instance:TyS Tryz.prog 37 1:=⟨ts37⟩
instance:TyS Tryz.prog 39 7:=⟨ts39⟩
instance:TyS Tryz.prog 4 1:=⟨ts4⟩
instance:TyS Tryz.prog 5 1:=⟨ts5⟩
instance:TyS Tryz.prog 52 1:=⟨ts52⟩
instance:TyS Tryz.prog 53 1:=⟨ts53⟩
instance:TyS Tryz.prog 57 4:=⟨ts57⟩
instance:TyS Tryz.prog 58 1:=⟨ts58⟩
instance:TyS Tryz.prog 60 1:=⟨ts60⟩
instance:TyS Tryz.prog 62 5:=⟨ts62⟩
instance:TyS Tryz.prog 68 1:=⟨Xs⟩
instance:TyS Tryz.prog 69 1:=⟨Xb⟩
instance:TyS Tryz.prog 71 1:=⟨ts71⟩
instance:TyS Tryz.prog 73 5:=⟨ts73⟩
instance:TyS Tryz.prog 76 3:=⟨ts76⟩
instance:TyS Tryz.prog 80 2:=⟨Wy⟩
instance:TyS Tryz.prog 87 6:=⟨ts87⟩
instance:TyS Tryz.prog 9 1:=⟨ts9⟩
instance:TyS Tryz.prog 97 5:=⟨Xe⟩
instance:TyU Tryz.prog 105 (.slice 140):=⟨tu105⟩
instance:TyU Tryz.prog 115 (.slice 5):=⟨tu115⟩
instance:TyU Tryz.prog 133 (.struct (Tryz.prog.fieldsOf 133)):=⟨Uh⟩
instance:TyU Tryz.prog 140 (.array 2 3):=⟨tu140⟩
instance:TyU Tryz.prog 146 (.slice 182):=⟨tu146⟩
instance:TyU Tryz.prog 165 (.struct (Tryz.prog.fieldsOf 165)):=⟨tu165⟩
instance:TyU Tryz.prog 174 (.slice 220):=⟨Vx⟩
instance:TyU Tryz.prog 182 (.struct (Tryz.prog.fieldsOf 182)):=⟨tu182⟩
instance:TyU Tryz.prog 184 (.slice 22):=⟨tu184⟩
instance:TyU Tryz.prog 195 (.struct (Tryz.prog.fieldsOf 195)):=⟨Wi⟩
instance:TyU Tryz.prog 200 (.slice 58):=⟨tu200⟩
instance:TyU Tryz.prog 203 (.array 2 3):=⟨tu203⟩
instance:TyU Tryz.prog 215 (.array 2 68):=⟨tu215⟩
instance:TyU Tryz.prog 22 (.slice 3):=⟨Q8⟩
instance:TyU Tryz.prog 220 (.struct (Tryz.prog.fieldsOf 220)):=⟨tu220⟩
instance:TyU Tryz.prog 224 (.int .u64):=⟨tu224⟩
instance:TyU Tryz.prog 23 (.slice 62):=⟨tu23⟩
instance:TyU Tryz.prog 235 (.struct (Tryz.prog.fieldsOf 235)):=⟨tu235⟩
instance:TyU Tryz.prog 236 (.slice 239):=⟨tu236⟩
instance:TyU Tryz.prog 239 (.struct (Tryz.prog.fieldsOf 239)):=⟨Vg⟩
instance:TyU Tryz.prog 24 (.slice 80):=⟨Oi⟩
instance:TyU Tryz.prog 253 (.int .u32):=⟨tu253⟩
instance:TyU Tryz.prog 255 (.int .u64):=⟨tu255⟩
instance:TyU Tryz.prog 26 (.struct (Tryz.prog.fieldsOf 26)):=⟨tu26⟩
instance:TyU Tryz.prog 262 (.array 4 68):=⟨tu262⟩
instance:TyU Tryz.prog 27 (.slice 76):=⟨tu27⟩
instance:TyU Tryz.prog 29 (.struct (Tryz.prog.fieldsOf 29)):=⟨Ux⟩
instance:TyU Tryz.prog 3 (.int .i64):=⟨tu3⟩
instance:TyU Tryz.prog 36 (.slice 26):=⟨tu36⟩
instance:TyU Tryz.prog 37 (.slice 87):=⟨tu37⟩
instance:TyU Tryz.prog 39 (.struct (Tryz.prog.fieldsOf 39)):=⟨tu39⟩
instance:TyU Tryz.prog 4 (.bool):=⟨tu4⟩
instance:TyU Tryz.prog 5 (.int .u8):=⟨tu5⟩
instance:TyU Tryz.prog 52 (.slice 57):=⟨tu52⟩
instance:TyU Tryz.prog 53 (.slice 97):=⟨N9⟩
instance:TyU Tryz.prog 55 (.struct (Tryz.prog.fieldsOf 55)):=⟨tu55⟩
instance:TyU Tryz.prog 57 (.struct (Tryz.prog.fieldsOf 57)):=⟨tu57⟩
instance:TyU Tryz.prog 58 (.slice 73):=⟨tu58⟩
instance:TyU Tryz.prog 60 (.struct (Tryz.prog.fieldsOf 60)):=⟨tu60⟩
instance:TyU Tryz.prog 62 (.struct (Tryz.prog.fieldsOf 62)):=⟨tu62⟩
instance:TyU Tryz.prog 68 (.slice 9):=⟨Kz⟩
instance:TyU Tryz.prog 69 (.slice 133):=⟨M6⟩
instance:TyU Tryz.prog 71 (.struct (Tryz.prog.fieldsOf 71)):=⟨Wq⟩
instance:TyU Tryz.prog 73 (.struct (Tryz.prog.fieldsOf 73)):=⟨tu73⟩
instance:TyU Tryz.prog 76 (.struct (Tryz.prog.fieldsOf 76)):=⟨tu76⟩
instance:TyU Tryz.prog 80 (.struct (Tryz.prog.fieldsOf 80)):=⟨tu80⟩
instance:TyU Tryz.prog 87 (.struct (Tryz.prog.fieldsOf 87)):=⟨tu87⟩
instance:TyU Tryz.prog 9 (.string):=⟨tu9⟩
instance:TyU Tryz.prog 97 (.struct (Tryz.prog.fieldsOf 97)):=⟨tu97⟩
instance:TyZ Tryz.prog 133 [.int .i64 0,.slice Option.none 0 0,.slice Option.none 0 0]:=⟨_,tz133,rfl⟩
instance:TyZ Tryz.prog 140 [.int .i64 0,.int .i64 0]:=⟨_,tz140,rfl⟩
instance:TyZ Tryz.prog 165 [.bool false,.slice Option.none 0 0]:=⟨_,tz165,rfl⟩
instance:TyZ Tryz.prog 195 [.slice Option.none 0 0,.int .i64 0,.bool false]:=⟨_,tz195,rfl⟩
instance:TyZ Tryz.prog 22 [.slice Option.none 0 0]:=⟨_,tz22,rfl⟩
instance:TyZ Tryz.prog 220 [.bool false,.slice Option.none 0 0,.slice Option.none 0 0,.slice Option.none 0 0,.slice Option.none 0 0]:=⟨_,tz220,rfl⟩
instance:TyZ Tryz.prog 235 [.slice Option.none 0 0]:=⟨_,tz235,rfl⟩
instance:TyZ Tryz.prog 239 [.int .i64 0,.int .i64 0,.int .i64 0]:=⟨_,tz239,rfl⟩
instance:TyZ Tryz.prog 26 [.slice Option.none 0 0]:=⟨_,tz26,rfl⟩
instance:TyZ Tryz.prog 29 [.int .i64 0,.int .i64 0]:=⟨_,tz29,rfl⟩
instance:TyZ Tryz.prog 3 [.int .i64 0]:=⟨_,tz3,rfl⟩
instance:TyZ Tryz.prog 39 [.slice Option.none 0 0,.slice Option.none 0 0,.slice Option.none 0 0,.slice Option.none 0 0,.slice Option.none 0 0,.slice Option.none 0 0,.slice Option.none 0 0]:=⟨_,tz39,rfl⟩
instance:TyZ Tryz.prog 4 [.bool false]:=⟨_,tz4,rfl⟩
instance:TyZ Tryz.prog 60 [.slice Option.none 0 0]:=⟨_,tz60,rfl⟩
instance:TyZ Tryz.prog 62 [.int .i64 0,.int .i64 0,.int .i64 0,.int .i64 0,.slice Option.none 0 0]:=⟨_,tz62,rfl⟩
instance:TyZ Tryz.prog 71 [.slice Option.none 0 0]:=⟨_,tz71,rfl⟩
instance:TyZ Tryz.prog 73 [.int .i64 0,.string ByteArray.empty,.string ByteArray.empty,.slice Option.none 0 0,.slice Option.none 0 0]:=⟨_,tz73,rfl⟩
instance:TyZ Tryz.prog 80 [.string ByteArray.empty,.slice Option.none 0 0]:=⟨_,tz80,rfl⟩
instance:TyZ Tryz.prog 87 [.int .i64 0,.int .i64 0,.int .i64 0,.int .i64 0,.int .i64 0,.slice Option.none 0 0]:=⟨_,tz87,rfl⟩
instance:TyZ Tryz.prog 97 [.int .i64 0,.int .i64 0,.int .i64 0,.int .i64 0,.slice Option.none 0 0]:=⟨_,tz97,rfl⟩
instance:TyA Tryz.prog 140 Arr2_Int:=⟨trivial⟩
instance:TyA Tryz.prog 5 UInt8:=⟨trivial⟩
instance:TyA Tryz.prog 182 Step_changeforgeref1:=⟨trivial⟩
instance:TyA Tryz.prog 220 Chunk:=⟨trivial⟩
instance:TyA Tryz.prog 22 (List Int):=⟨trivial⟩
instance:TyA Tryz.prog 58 (List TreeChange):=⟨trivial⟩
instance:TyA Tryz.prog 3 Int:=⟨trivial⟩
instance:TyA Tryz.prog 62 ForgeEvent:=⟨trivial⟩
instance:TyA Tryz.prog 239 Range_commute:=⟨trivial⟩
instance:TyA Tryz.prog 80 File:=⟨trivial⟩
instance:TyA Tryz.prog 76 ForgeEntry:=⟨trivial⟩
instance:TyA Tryz.prog 26 FileTree:=⟨trivial⟩
instance:TyA Tryz.prog 87 Letter_changeforgeref2:=⟨trivial⟩
instance:TyA Tryz.prog 57 Developer_forge:=⟨trivial⟩
instance:TyA Tryz.prog 97 Message_forge:=⟨trivial⟩
instance:TyA Tryz.prog 73 TreeChange:=⟨trivial⟩
instance:TyA Tryz.prog 9 ByteArray:=⟨trivial⟩
instance:TyA Tryz.prog 133 Hunk:=⟨trivial⟩
end
theorem evX {C:World→Prop} {op:Op} {v:Value} (h:Ev P n e C op v:=by first
  | ((with_reducible show Ev _ _ _ _ (.move _) _);exact Bj rfl)
  | ((with_reducible show Ev _ _ _ _ (.assign _) _);exact K4 rfl)
  | ((with_reducible show Ev _ _ _ _ (.load _ _) _);first | exact ea_loadB rfl | exact ea_loadA rfl | exact ea_loadC rfl | exact ea_loadCf rfl | exact ea_loadCA rfl | exact ea_loadCAf rfl | exact ea_loadW rfl | exact ea_loadWf rfl | exact ea_loadWA rfl | exact ea_loadWAf rfl)
  | ((with_reducible show Ev _ _ _ _ (.fieldAddr _ _ _) _);first | exact ea_fieldB rfl | exact ea_fieldC rfl)
  | ((with_reducible show Ev _ _ _ _ (.binOp .lss _ _ _ _) _);first | exact W5 (hop:=M4 _ _ _ _) | exact ea_str (hop:=bs_lss _ _ _))
  | ((with_reducible show Ev _ _ _ _ (.binOp .leq _ _ _ _) _);first | exact W5 (hop:=bo_leq _ _ _ _) | exact ea_str (hop:=bs_leq _ _ _))
  | ((with_reducible show Ev _ _ _ _ (.binOp .gtr _ _ _ _) _);first | exact W5 (hop:=bo_gtr _ _ _ _) | exact ea_str (hop:=bs_gtr _ _ _))
  | ((with_reducible show Ev _ _ _ _ (.binOp .geq _ _ _ _) _);first | exact W5 (hop:=bo_geq _ _ _ _) | exact ea_str (hop:=bs_geq _ _ _))
  | ((with_reducible show Ev _ _ _ _ (.binOp .eql _ _ _ _) _);first | exact W5 (hop:=L6 _ _ _ _) | exact ea_str (hop:=Zo _ _ _) | exact ea_eqB rfl rfl | exact ev_eqS Ux tqa29 tqb29 tqc29 rfl rfl alX)
  | ((with_reducible show Ev _ _ _ _ (.binOp .neq _ _ _ _) _);first | exact W5 (hop:=bo_neq _ _ _ _) | exact ea_str (hop:=bs_neq _ _ _) | exact ea_neB rfl rfl | exact ev_neS Ux tqa29 tqb29 tqc29 rfl rfl alX)
  | ((with_reducible show Ev _ _ _ _ (.binOp .add _ _ _ _) _);first | exact W5 (hop:=He (by assumption)) | exact ea_str (hop:=bs_add (by assumption)))
  | ((with_reducible show Ev _ _ _ _ (.binOp .sub _ _ _ _) _);exact W5 (hop:=N6 (by assumption)))
  | ((with_reducible show Ev _ _ _ _ (.binOp .mul _ _ _ _) _);exact W5 (hop:=bo_mul (by assumption)))
  | ((with_reducible show Ev _ _ _ _ (.binOp .quo _ _ _ _) _);exact W5 (hop:=bo_quo (by assumption)))
  | ((with_reducible show Ev _ _ _ _ (.binOp .rem _ _ _ _) _);exact W5 (hop:=bo_rem (by assumption)))
  | ((with_reducible show Ev _ _ _ _ (.binOp .and _ _ _ _) _);exact W5 (hop:=bo_and _ _ _ _))
  | ((with_reducible show Ev _ _ _ _ (.binOp .or _ _ _ _) _);exact W5 (hop:=bo_or _ _ _ _))
  | ((with_reducible show Ev _ _ _ _ (.binOp .xor _ _ _ _) _);exact W5 (hop:=bo_xor _ _ _ _))
  | ((with_reducible show Ev _ _ _ _ (.binOp .shr _ _ _ _) _);exact ev_shr (by assumption) rfl rfl)
  | ((with_reducible show Ev _ _ _ _ (.binOp .shl _ _ _ _) _);exact ev_shl (by assumption) rfl rfl)
  | ((with_reducible show Ev _ _ _ _ (.makeFunc _ #[] _) _);exact ea_mkF evlX)
  | ((with_reducible show Ev _ _ _ _ (.extract _ _) _);exact H7 rfl rfl)
  | ((with_reducible show Ev _ _ _ _ (.indexAddr _ _ _) _);first | exact ea_idxS rfl rfl | exact ea_idxO rfl rfl | exact ea_idxArrB rfl rfl | exact ea_idxArrC rfl rfl)
  | ((with_reducible show Ev _ _ _ _ (.call { callee:=.builtin .len,args:=_,argTypes:=_ }) _);first | exact ea_lenS rfl | exact ea_lenO rfl | exact ea_lenStr rfl)
  | ((with_reducible show Ev _ _ _ _ (.field _ _ _) _);exact ea_field1 rfl)
  | ((with_reducible show Ev _ _ _ _ (.slice _ _ _ _ _) _);exact ea_slice rfl)
  | ((with_reducible show Ev _ _ _ _ (.index _ _ _) _);first | exact ea_sAt rfl rfl | exact ea_ixI rfl rfl)
  | ((with_reducible show Ev _ _ _ _ (.convert _ _ _) _);first | exact ea_conv rfl | exact ea_convS rfl | exact ea_convU rfl)
  | ((with_reducible show Ev _ _ _ _ (.nilCheck _) _);first | exact Lt rfl | exact ev_nilF rfl | exact V8 (PtrC.ptr ptX) rfl | exact V8 (by assumption) rfl)
  | ((with_reducible show Ev _ _ _ _ (.call { callee:=.builtin .max,args:=_,argTypes:=_ }) _);exact ev_max rfl rfl)
  | ((with_reducible show Ev _ _ _ _ (.call { callee:=.builtin .min,args:=_,argTypes:=_ }) _);exact ev_min rfl rfl)
  | ((with_reducible show Ev _ _ _ _ (.unOp .neg _ _) _);exact ev_neg rfl (by assumption))
  | ((with_reducible show Ev _ _ _ _ (.pick _ _ _) _);first | exact Kn rfl tX rfl | exact Hy rfl fX rfl)
  | ((with_reducible show Ev _ _ _ _ (.build 29 _) _);first | exact Hp (hp:=by exact rfl) (h:=fun w=>tb29_0_1 _ _ w) | exact Hp (hp:=by exact rfl) (h:=fun w=>tb29_  w) | exact Hp (hp:=by exact rfl) (h:=fun w=>tb29_0 _ w))
  | ((with_reducible show Ev _ _ _ _ (.build 215 _) _);first | exact Hp (hp:=by exact rfl) (h:=fun w=>tb215_0_1 _ (by exact isX) _ (by exact isX) w))
  | ((with_reducible show Ev _ _ _ _ (.build 80 _) _);first | exact Hp (hp:=by exact rfl) (h:=fun w=>tb80_0_1 _ _ (by exact isX) w) | exact Hp (hp:=by exact rfl) (h:=fun w=>tb80_0 _ w))
  | ((with_reducible show Ev _ _ _ _ (.build 26 _) _);first | exact Hp (hp:=by exact rfl) (h:=fun w=>tb26_  w) | exact Hp (hp:=by exact rfl) (h:=fun w=>tb26_0 _ (by exact isX) w))
  | ((with_reducible show Ev _ _ _ _ (.build 133 _) _);first | exact Hp (hp:=by exact rfl) (h:=fun w=>tb133_0 _ w))
  | ((with_reducible show Ev _ _ _ _ (.build 71 _) _);first | exact Hp (hp:=by exact rfl) (h:=fun w=>tb71_  w) | exact Hp (hp:=by exact rfl) (h:=fun w=>tb71_0 _ (by exact isX) w))
  | ((with_reducible show Ev _ _ _ _ (.build 60 _) _);first | exact Hp (hp:=by exact rfl) (h:=fun w=>tb60_  w) | exact Hp (hp:=by exact rfl) (h:=fun w=>tb60_0 _ (by exact isX) w))
  | ((with_reducible show Ev _ _ _ _ (.build 73 _) _);first | exact Hp (hp:=by exact rfl) (h:=fun w=>tb73_0_1_3 _ _ _ (by exact isX) w) | exact Hp (hp:=by exact rfl) (h:=fun w=>tb73_0_1_4 _ _ _ (by exact isX) w))
  | ((with_reducible show Ev _ _ _ _ (.build 203 _) _);first | exact Hp (hp:=by exact rfl) (h:=fun w=>tb203_0_1 _ _ w))
  | ((with_reducible show Ev _ _ _ _ (.build 140 _) _);first | exact Hp (hp:=by exact rfl) (h:=fun w=>tb140_0_1 _ _ w))
  | ((with_reducible show Ev _ _ _ _ (.build 97 _) _);first | exact Hp (hp:=by exact rfl) (h:=fun w=>tb97_0_1_2_4 _ _ _ _ (by exact isX) w))
  | ((with_reducible show Ev _ _ _ _ (.build 165 _) _);first | exact Hp (hp:=by exact rfl) (h:=fun w=>tb165_  w) | exact Hp (hp:=by exact rfl) (h:=fun w=>tb165_0_1 _ _ (by exact isX) w))
  | ((with_reducible show Ev _ _ _ _ (.build 239 _) _);first | exact Hp (hp:=by exact rfl) (h:=fun w=>tb239_0_1_2 _ _ _ w))
  | ((with_reducible show Ev _ _ _ _ (.build 220 _) _);first | exact Hp (hp:=by exact rfl) (h:=fun w=>tb220_  w) | exact Hp (hp:=by exact rfl) (h:=fun w=>tb220_0_2_3_4 _ _ (by exact isX) _ (by exact isX) _ (by exact isX) w) | exact Hp (hp:=by exact rfl) (h:=fun w=>tb220_1 _ (by exact isX) w))
  | ((with_reducible show Ev _ _ _ _ (.build 262 _) _);first | exact Hp (hp:=by exact rfl) (h:=fun w=>tb262_0_1_2_3 _ (by exact isX) _ (by exact isX) _ (by exact isX) _ (by exact isX) w))
  | ((with_reducible show Ev _ _ _ _ (.build 76 _) _);first | exact Hp (hp:=by exact rfl) (h:=fun w=>tb76_0_1_2 _ _ _ (by exact isX) w) | exact Hp (hp:=by exact rfl) (h:=fun w=>tb76_1_2 _ _ (by exact isX) w))
  | ((with_reducible show Ev _ _ _ _ (.build 55 _) _);first | exact Hp (hp:=by exact rfl) (h:=fun w=>tb55_0_1_2 _ (by exact isX) _ (by exact isX) _ (by exact isX) w))
  | ((with_reducible show Ev _ _ _ _ (.build 62 _) _);first | exact Hp (hp:=by exact rfl) (h:=fun w=>tb62_0_4 _ _ (by exact isX) w) | exact Hp (hp:=by exact rfl) (h:=fun w=>tb62_0_2 _ _ w) | exact Hp (hp:=by exact rfl) (h:=fun w=>tb62_0 _ w))
  | ((with_reducible show Ev _ _ _ _ (.build 182 _) _);first | exact Hp (hp:=by exact rfl) (h:=fun w=>tb182_0_1 _ _ w))
  | ((with_reducible show Ev _ _ _ _ (.build 87 _) _);first | exact Hp (hp:=by exact rfl) (h:=fun w=>tb87_0_1_2_5 _ _ _ _ (by exact isX) w))
  | ((with_reducible show Ev _ _ _ _ (.build 39 _) _);first | exact Hp (hp:=by exact rfl) (h:=fun w=>Zl _ (by exact isX) _ (by exact isX) _ (by exact isX) _ (by exact isX) _ (by exact isX) w))
  | ((with_reducible show Ev _ _ _ _ (.call { callee:=.value (.func 179),args:=_,argTypes:=_ }) _);exact ev_callx (hf:=by exact rfl) (hxs:=by exact rfl) (hrun:=fun w=>tx179 _ _ w))
  | ((with_reducible show Ev _ _ _ _ (.call { callee:=.value (.func 180),args:=_,argTypes:=_ }) _);exact ev_callx (hf:=by exact rfl) (hxs:=by exact rfl) (hrun:=fun w=>tx180 _ _ w))
  | ((with_reducible show Ev _ _ _ _ (.unOp .not _ _) _);exact ea_not rfl)):Ev P n e C op v:=h
variable {M : Md}
theorem q_ev {op:Op} {v:Value} (K:SL P ρ n ops M fr g cks ((d,v)::e) rest) (hev:Ev P n e (fun w=>St g cks fr w) op v:=by exact evX) (hn:Nat.blt d n.sz=true:=by exact rfl):SL P ρ n ops M fr g cks e (⟨some d,op,ty,ps,af,Option.none⟩::rest) :=
  ⟨fun a w F S=>wL_ev (wn rfl) hev F S rfl hn fun a' F'=>K.h a' w F' S⟩
theorem q_evE {op:Op} {Φ:Value→Prop} (hev:∃ v,Φ v∧Ev P n e (fun w=>St g cks fr w) op v) (hn:Nat.blt d n.sz=true) (K:∀ v,Φ v→SL P ρ n ops M fr g cks ((d,v)::e) rest):SL P ρ n ops M fr g cks e (⟨some d,op,ty,ps,af,Option.none⟩::rest):=by
  obtain ⟨v,hv,he⟩:=hev
  exact q_ev (K v hv) he hn
universe u in
theorem xE {α:Sort u} {p:α→Prop} (h:∃ x,p x):∃ x,p x:=h
theorem xA {a b:Prop} (h:a∧b):a∧b:=h
theorem xO {a b:Prop} (h:a∨b):a∨b:=h
theorem ctX {p:Prop} (h:p:=by
  first
  | (apply K
     all_goals try ((with_reducible show St _ _ _ _);refine St.selF (r:=?_) S ?_)
     all_goals try first | ((with_reducible show RepSl _ _ _);exact shX) | ((with_reducible show OwnS _ _ _ _);exact owX) | ((with_reducible show OwnN _ _ _ _);exact onX)
     all_goals try ((with_reducible show NilE _ _);first | assumption | exact NilE.nil)
     all_goals try ((with_reducible show RepH _ _ _);first | assumption | exact RepH.int)
     all_goals try ((with_reducible show Sel _ _ _);exact selX)
     all_goals try ((with_reducible show _=some _);assumption)
     all_goals fail)
  | (apply K
     all_goals try ((with_reducible show _=some _);assumption)
     all_goals try ((with_reducible show St _ _ _ _);refine St.selF (r:=?_) S ?_)
     all_goals try first | ((with_reducible show RepSl _ _ _);exact shX) | ((with_reducible show OwnS _ _ _ _);exact owX) | ((with_reducible show OwnN _ _ _ _);exact onX)
     all_goals try ((with_reducible show NilE _ _);first | assumption | exact NilE.nil)
     all_goals try ((with_reducible show RepH _ _ _);first | assumption | exact RepH.int)
     all_goals try ((with_reducible show Sel _ _ _);exact selX)
     all_goals fail)
  | fail):p:=h
theorem cqX {p:Prop} (h:p:=by
  first
  | (apply Calls.mono
     focus exact ctX
     rintro en w ⟨_,rfl,hR⟩
     repeat (first | ((with_reducible have h0:=xE hR);clear h0;obtain ⟨_,hR⟩:=hR) | ((with_reducible have h0:=xA hR);clear h0;obtain ⟨_,hR⟩:=hR))
     subst hR
     first | exact ⟨rfl,St0.weak (by assumption) (by assumption)⟩ | exact ⟨rfl,St0.weak (by assumption) (St.unsel (by assumption))⟩)
  | fail):p:=h
theorem cpX {p:Prop} (h:p:=by
  first
  | (intro K w S;exact cqX)
  | fail):p:=h
def Ext (e e':List (Nat×Value)):Prop:=∀ t v,Kf e' t=some v→Kf e t=some v
theorem ext_refl:Ext e e:=fun _ _ h=>h
theorem ext_cons {e':List (Nat×Value)} {k:Nat} {v:Value} (h:Kf e' k=Option.none) (r:Ext e e'):Ext ((k,v)::e) e':=fun t u ht=>by
  rw [Wp]
  cases hb:Nat.beq k t with
  | true=>have:=Nat.eq_of_beq_eq_true hb;subst this;rw [h] at ht;cases ht
  | false=>exact r t u ht
theorem extX {e e':List (Nat×Value)} (h:Ext e e':=by first | exact ext_refl | exact ext_cons rfl extX):Ext e e':=h
theorem Fr.ext' {a:Act} {v:Value} {e':List (Nat×Value)} (F:Fr n a ((d,v)::e)) (h:Ext e e'):Fr n a ((d,v)::e'):=⟨F.sz,F.df,fun t u ht=>F.get t u (by
  rw [Wp] at ht ⊢
  cases hb:Nat.beq d t with
  | true=>rw [hb] at ht;exact ht
  | false=>rw [hb] at ht;exact h t u ht)⟩
theorem sbX {e e':List (Nat×Value)} (h:Sub e e':=by repeat (first | exact trivial | refine ⟨rfl,?_⟩)):Sub e e':=h
structure SG (P:Program) (ρ:Option Nat) (n:Fw) (ops:Array Oper) (M:Md) (fr:Hl) (g:Gh) (cks:List Hl) (e0:List (Nat×Value)) (t:Nat) (x:Bool) (rest:List Oper) (e:List (Nat×Value)) (l:List Oper):Prop where
  h:∀ a w,Fr n a e→St g cks fr w→(∀ a' w',Fr n a' ((t,.bool x)::e0)→St g cks fr w'→WL P ρ ops fr g cks M rest a' w')→WL P ρ ops fr g cks M l a w
def isP (o:Oper):Bool:=match o with
  | ⟨some _,.pick _ _ _,_,_,_,Option.none⟩=>true
  | _=>false
def tOf:List Oper→Nat
  | []=>0
  | o::r=>bif isP o then o.dst.getD 0 else tOf r
def rOf:List Oper→List Oper
  | []=>[]
  | o::r=>bif isP o then r else rOf r
theorem sg_go {t:Nat} {x:Bool} {L r':List Oper} {o':Oper} (hm:L=L) (ht:nums[tOf L]? = some t) (hr:rOf L=o'::r') (h:SG P ρ n ops M fr g cks e t x (o'::r') e L) (K:SL P ρ n ops M fr g cks ((t,.bool x)::e) (o'::r')):SL P ρ n ops M fr g cks e L:=⟨fun a w F S=>h.h a w F S fun a' w' F' S'=>K.h a' w' F' S'⟩
theorem sg_go0 {t:Nat} {x:Bool} {L:List Oper} (ht:nums[tOf L]? = some t) (hr:rOf L=[]) (h:SG P ρ n ops M fr g cks e t x [] e L) (K:SL P ρ n ops M fr g cks ((t,.bool x)::e) []):SL P ρ n ops M fr g cks e L:=⟨fun a w F S=>h.h a w F S fun a' w' F' S'=>K.h a' w' F' S'⟩
theorem wL_call {o:Oper} {a:Act} {w:World} {v:Value} {f:Operand} {fn:Nat} {xs:List Operand} {vs cap args:List Value} {A:Array TypeId} (hg:Region.wanted o (yielded ops a.tmps)=true) (ho:o.op=.call { callee:=.value f,args:=xs.toArray,argTypes:=A }) (F:Fr n a e) (S:St g cks fr w)
    (hf:Bn e f=some (.func (.func fn) #[] cap.toArray)) (hxs:EvL e xs vs) (ha:App vs cap args) (hent:∀ args w,(callFunc fn args).run P w=.ok (.enter fn args) w) (hc:∀ w,St g cks fr w→Calls P fn args.toArray w (fun en w'=>en=.returned v∧St g cks fr w')) (hd:o.dst=some d) (hn:Nat.blt d n.sz=true)
    (k:∀ a' w',Fr n a' ((d,v)::e)→St g cks fr w'→WL P ρ ops fr g cks M rest a' w'):WL P ρ ops fr g cks M (o::rest) a w:=by
  obtain rfl:=ha.h
  cases M with
  | l Q=>exact wl_call (R:=fun v' w'=>v'=v∧St g cks fr w') hg ho F hf hxs hent (Calls.mono (hc w S) fun en w' h=>⟨v,h.1,rfl,h.2⟩) hd hn fun v' a' w' h F'=>by obtain ⟨rfl,h⟩:=h;exact k a' w' F' h
  | q Q=>exact Wt hg ho F hf hxs hent (fun w S=>hc w S) hd hn fun a' F'=>k a' w F' S
section
variable {e0 : List (Nat × Value)} {t : Nat} {x : Bool} {l : List Oper}
theorem sg_ev {op:Op} {v:Value} (K:SG P ρ n ops M fr g cks e0 t x rest ((d,v)::e) l) (hev:Ev P n e (fun w=>St g cks fr w) op v:=by exact evX) (hn:Nat.blt d n.sz=true:=by exact rfl):SG P ρ n ops M fr g cks e0 t x rest e (⟨some d,op,ty,ps,af,Option.none⟩::l) :=
  ⟨fun a w F S H=>wL_ev (wn rfl) hev F S rfl hn fun a' F'=>K.h a' w F' S H⟩
theorem sg_on {op:Op} {v:Value} {j s:Nat} {want b:Bool} (hj:(ops[j]?).bind (·.dst)=some s) (hb:Kf e s=some (.bool b)) (hw:b=want) (K:SG P ρ n ops M fr g cks e0 t x rest ((d,v)::e) l) (hev:Ev P n e (fun w=>St g cks fr w) op v:=by exact evX) (hs:Nat.blt s n.sz=true:=by exact rfl) (hn:Nat.blt d n.sz=true:=by exact rfl):SG P ρ n ops M fr g cks e0 t x rest e (⟨some d,op,ty,ps,af,some (j,want)⟩::l) :=
  ⟨fun a w F S H=>wL_ev (wg F rfl hj hs hb hw) hev F S rfl hn fun a' F'=>K.h a' w F' S H⟩
theorem sg_off {op:Op} {j s:Nat} {want b:Bool} (hj:(ops[j]?).bind (·.dst)=some s) (hb:Kf e s=some (.bool b)) (hw:(b == want)=false) (K:SG P ρ n ops M fr g cks e0 t x rest ((d,undef)::e) l) (hs:Nat.blt s n.sz=true:=by exact rfl) (hn:Nat.blt d n.sz=true:=by exact rfl):SG P ρ n ops M fr g cks e0 t x rest e (⟨some d,op,ty,ps,af,some (j,want)⟩::l) :=
  ⟨fun a w F S H=>wL_skip rfl hj hs hb hw F rfl hn fun a' F'=>K.h a' w F' S H⟩
theorem sg_offu {op:Op} {j s:Nat} {want:Bool} (hj:(ops[j]?).bind (·.dst)=some s) (hb:Kf e s=some undef) (K:SG P ρ n ops M fr g cks e0 t x rest ((d,undef)::e) l) (hs:Nat.blt s n.sz=true:=by exact rfl) (hn:Nat.blt d n.sz=true:=by exact rfl):SG P ρ n ops M fr g cks e0 t x rest e (⟨some d,op,ty,ps,af,some (j,want)⟩::l) :=
  ⟨fun a w F S H=>wL_skipu rfl hj hs hb F rfl hn fun a' F'=>K.h a' w F' S H⟩
theorem sg_call (kc:Nat) {T:Prop} {f:Operand} {fn:Nat} {xs:List Operand} {vs cap args:List Value} {v:Value} {A:Array TypeId} (hf:Bn e f=some (.func (.func fn) #[] cap.toArray)) (hxs:EvL e xs vs) [c:Con P fn kc T]
    (K:SG P ρ n ops M fr g cks e0 t x rest ((d,v)::e) l) (hc:T→∀ w,St g cks fr w→Calls P fn args.toArray w (fun en w'=>en=.returned v∧St g cks fr w'):=by exact cpX) (ha:App vs cap args:=by exact apX) (hn:Nat.blt d n.sz=true:=by exact rfl) :
    SG P ρ n ops M fr g cks e0 t x rest e (⟨some d,.call { callee:=.value f,args:=xs.toArray,argTypes:=A },ty,ps,af,Option.none⟩::l) :=
  ⟨fun a w F S H=>wL_call (wn rfl) rfl F S hf hxs ha c.tc (hc c.ok) rfl hn fun a' w' F' S'=>K.h a' w' F' S' H⟩
theorem sg_callg (kc:Nat) {T:Prop} {f:Operand} {fn:Nat} {xs:List Operand} {vs cap args:List Value} {v:Value} {A:Array TypeId} {j s:Nat} {want b:Bool} (hj:(ops[j]?).bind (·.dst)=some s) (hb:Kf e s=some (.bool b)) (hw:b=want) (hf:Bn e f=some (.func (.func fn) #[] cap.toArray)) (hxs:EvL e xs vs) [c:Con P fn kc T]
    (K:SG P ρ n ops M fr g cks e0 t x rest ((d,v)::e) l) (hc:T→∀ w,St g cks fr w→Calls P fn args.toArray w (fun en w'=>en=.returned v∧St g cks fr w'):=by exact cpX) (ha:App vs cap args:=by exact apX) (hs:Nat.blt s n.sz=true:=by exact rfl) (hn:Nat.blt d n.sz=true:=by exact rfl) :
    SG P ρ n ops M fr g cks e0 t x rest e (⟨some d,.call { callee:=.value f,args:=xs.toArray,argTypes:=A },ty,ps,af,some (j,want)⟩::l) :=
  ⟨fun a w F S H=>wL_call (wg F rfl hj hs hb hw) rfl F S hf hxs ha c.tc (hc c.ok) rfl hn fun a' w' F' S'=>K.h a' w' F' S' H⟩
theorem sg_pickT {c u v:Operand} {b x':Bool} (hc:Bn e c=some (.bool b)) (hb:b=true) (hv:Bn e u=some (.bool x')) (hx:x'=x) (hs:Ext e e0) (hn:Nat.blt d n.sz=true:=by exact rfl):SG P ρ n ops M fr g cks e0 d x rest e (⟨some d,.pick c u v,ty,ps,af,Option.none⟩::rest) :=
  ⟨fun a w F S H=>wL_ev (wn rfl) (Kn hc hb (by rw [hv,hx])) F S rfl hn fun a' F'=>H a' w (F'.ext' hs) S⟩
theorem sg_pickF {c u v:Operand} {b x':Bool} (hc:Bn e c=some (.bool b)) (hb:b=false) (hv:Bn e v=some (.bool x')) (hx:x'=x) (hs:Ext e e0) (hn:Nat.blt d n.sz=true:=by exact rfl):SG P ρ n ops M fr g cks e0 d x rest e (⟨some d,.pick c u v,ty,ps,af,Option.none⟩::rest) :=
  ⟨fun a w F S H=>wL_ev (wn rfl) (Hy hc hb (by rw [hv,hx])) F S rfl hn fun a' F'=>H a' w (F'.ext' hs) S⟩
end
theorem q_alloc {T:TypeId} {cs:List Value} [z:TyZ P T cs] (K:∀ b,SL P ρ n ops (.l Q) fr g ([bx b cs.toArray T]::cks) ((d,bp b 0)::e) rest) (hn:Nat.blt d n.sz=true:=by exact rfl):SL P ρ n ops (.l Q) fr g cks e (⟨some d,.alloc T,ty,ps,af,Option.none⟩::rest):=by
  obtain ⟨z,h1,h2⟩:=z.h
  exact ⟨fun a w F S=>wl_alloc (wn rfl) rfl h1 h2 F S rfl hn fun b a' w' F' S'=>(K b).h a' w' F' S'⟩
theorem q_box {T:TypeId} {x:Operand} {v:Value} {cs:List Value} (hx:Bn e x=some v) (K:∀ b,SL P ρ n ops (.l Q) fr g ([bx b cs.toArray T]::cks) ((d,bp b 0)::e) rest) (hcl:v.cells.toList=cs:=by exact clX) (hn:Nat.blt d n.sz=true:=by exact rfl):SL P ρ n ops (.l Q) fr g cks e (⟨some d,.box T x,ty,ps,af,Option.none⟩::rest) :=
  ⟨fun a w F S=>wl_boxC (wn rfl) rfl hx hcl F S rfl hn fun b a' w' F' S'=>(K b).h a' w' F' S'⟩
theorem q_st {T:TypeId} {x y:Operand} {b off z:Nat} {v:Value} {us l o:List Value} {f:List Value→List Hl} (hx:Bn e x=some (bp b off)) (hy:Bn e y=some v) [i:InB cks b l f] [s:TyS P T z] [q:SetL l us off o] (K:SL P ρ n ops (.l Q) fr g (f o) e rest) (hcl:v.cells.toList=us:=by exact clX) (h1:∀ u∈us,Tq u=true:=by exact onsX) (hz:us.length=z:=by exact rfl):SL P ρ n ops (.l Q) fr g cks e (⟨Option.none,.store T x y,ty,ps,af,Option.none⟩::rest):=by
  obtain ⟨k,t,h2,h3⟩:=i.h
  obtain ⟨h4,h5⟩:=q.h
  refine ⟨fun a w F S=>Tn (c':=o.toArray) (wn rfl) rfl F S hx hy hcl (by rw [s.h,hz]) h1 h2 (by simpa using h5) (by rw [← h4];simp [spl]) rfl fun w' S'=>K.h a w' F ?_⟩
  rw [← h3];exact S'
theorem q_call (kc:Nat) {T:Prop} {f:Operand} {fn:Nat} {xs:List Operand} {vs cap args:List Value} {A:Array TypeId} (hf:Bn e f=some (.func (.func fn) #[] cap.toArray)) (hxs:EvL e xs vs) [c:Con P fn kc T]
    (hc:T→∀ w,St g cks fr w→Calls P fn args.toArray w (fun en w=>∃ v,en=.returned v∧∀ a,Fr n a ((d,v)::e)→wpListIn (RW ρ) 0 P ops Q rest a w)) (ha:App vs cap args:=by exact apX) (hn:Nat.blt d n.sz=true:=by exact rfl) :
    SL P ρ n ops (.l Q) fr g cks e (⟨some d,.call { callee:=.value f,args:=xs.toArray,argTypes:=A },ty,ps,af,Option.none⟩::rest) :=
  ⟨fun a w F S=>by
    obtain rfl:=ha.h
    exact wl_call (R:=fun v w=>∀ a,Fr n a ((d,v)::e)→wpListIn (RW ρ) 0 P ops Q rest a w) (wn rfl) rfl F hf hxs c.tc (hc c.ok w S) rfl hn fun v a' w' h F'=>h a' F'⟩
theorem q_callq (kc:Nat) {T:Prop} {f:Operand} {fn:Nat} {xs:List Operand} {vs cap args:List Value} {v:Value} {A:Array TypeId} {Q:Act→Prop} (hf:Bn e f=some (.func (.func fn) #[] cap.toArray)) (hxs:EvL e xs vs) [c:Con P fn kc T]
    (K:SL P ρ n ops (.q Q) fr g cks ((d,v)::e) rest) (hc:T→∀ w,St g cks fr w→Calls P fn args.toArray w (fun en w'=>en=.returned v∧St g cks fr w'):=by exact cpX) (ha:App vs cap args:=by exact apX) (hn:Nat.blt d n.sz=true:=by exact rfl) :
    SL P ρ n ops (.q Q) fr g cks e (⟨some d,.call { callee:=.value f,args:=xs.toArray,argTypes:=A },ty,ps,af,Option.none⟩::rest) :=
  ⟨fun a w F S=>wL_call (wn rfl) rfl F S hf hxs ha c.tc (hc c.ok) rfl hn fun a' w' F' S'=>K.h a' w' F' S'⟩
theorem suA {w:World} {l:List Oper} {tc c:List Hl} (S:St g tc (fl cks fr) w) (h:SL P ρ n ops (.l Q) fr g c e l) (ha:App tc cks c:=by exact apX):∀ a,Fr n a e→wpListIn (RW ρ) 0 P ops Q l a w:=fun a F=>by
  obtain rfl:=ha.h
  exact h.h a w F (by show St0 g (fl (tc++cks) fr) w;rw [fl_append];exact S)
class Inl (P:Program) (fn:Nat) (F:outParam Func) (m:outParam Nat):Prop where
  f:P.funcs[fn]? = some F
  n:F.ntmps=m
  tc:∀ (args:Array Value) (w:World),(callFunc fn args).run P w=.ok (.enter fn args) w
section
open Go.Proofs
instance:Inl Tryz.prog 59 Tryz.f59 32:=⟨Tryz.func59,Tryz.ntmps59,tc59⟩
instance:Inl Tryz.prog 102 Tryz.f102 12:=⟨Tryz.func102,Tryz.ntmps102,tc102⟩
instance:Inl Tryz.prog 108 Tryz.f108 8:=⟨Tryz.func108,Tryz.ntmps108,tc108⟩
instance:Inl Tryz.prog 120 Tryz.f120 49:=⟨Tryz.func120,Tryz.ntmps120,tc120⟩
instance:Inl Tryz.prog 131 Tryz.f131 8:=⟨Tryz.func131,Tryz.ntmps131,tc131⟩
instance:Inl Tryz.prog 141 Tryz.f141 4:=⟨Tryz.func141,Tryz.ntmps141,tc141⟩
instance:Inl Tryz.prog 149 Tryz.f149 8:=⟨Tryz.func149,Tryz.ntmps149,tc149⟩
instance:Inl Tryz.prog 163 Tryz.f163 36:=⟨Tryz.func163,Tryz.ntmps163,tc163⟩
instance:Inl Tryz.prog 165 Tryz.f165 19:=⟨Tryz.func165,Tryz.ntmps165,tc165⟩
instance:Inl Tryz.prog 166 Tryz.f166 9:=⟨Tryz.func166,Tryz.ntmps166,tc166⟩
instance:Inl Tryz.prog 168 Tryz.f168 7:=⟨Tryz.func168,Tryz.ntmps168,tc168⟩
instance:Inl Tryz.prog 176 Tryz.f176 52:=⟨Tryz.func176,Tryz.ntmps176,tc176⟩
instance:Inl Tryz.prog 182 Tryz.f182 19:=⟨Tryz.func182,Tryz.ntmps182,tc182⟩
theorem so143 {g:Gh} {fr:Hl} {w:World} {r l:Ab} {v:Value} {c:Hl} (h:OwnS g l v c) (S:St g [c] fr w) (hm:sortS? l=some r):Calls Tryz.prog 143 [v].toArray w (fun en w'=>∃ u,en=.returned u∧∃ c',St g [c'] fr w'∧OwnS g r v c'∧.tuple #[]=u):=(sortS_ok Tryz.lay143 S h hm).mono fun _ _ ⟨u,e,c',a,b,d⟩=>⟨u,e,c',a,b,d.symm⟩
instance:Con Tryz.prog 143 0 (type_of% @so143):=⟨@so143,tc143⟩
end
structure AE (k:Nat) (l:List Value) (e:List (Nat×Value)):Prop where
  h:argE k l=e
theorem ae0 {k:Nat}:AE k [] []:=⟨rfl⟩
theorem ae1 {k j:Nat} {v:Value} {l:List Value} {e:List (Nat×Value)} (hj:nums[k+1]? = some j) (hj':k+1=j) (h:AE j l e):AE k (v::l) ((k,v)::e):=by subst hj';exact ⟨congrArg ((k,v) :: ·) h.h⟩
theorem aeX {k:Nat} {l:List Value} {e:List (Nat×Value)} (h:AE k l e:=by first | exact ae0 | exact ae1 rfl rfl aeX):AE k l e:=h
def IR (P:Program) (ρ:Option Nat) (n:Fw) (ops:Array Oper) (Q:Exit→Act→World→Prop) (d:Nat) (e0:List (Nat×Value)) (rest:List Oper):Ending→World→Prop:=fun en w'=>∃ v,en=.returned v∧∀ a',Fr n a' ((d,v)::e0)→wpListIn (RW ρ) 0 P ops Q rest a' w'
theorem q_inl {f:Operand} {fn m:Nat} {F:Func} {c:Code} {xs:List Operand} {cap vs args:List Value} {e1:List (Nat×Value)} {A:Array TypeId} (hf:Bn e f=some (.func (.func fn) #[] cap.toArray)) (hxs:EvL e xs vs) [i:Inl P fn F m]
    (K:SC P Option.none ⟨m,[]⟩ (bodyPost P F (IR P ρ n ops Q d e rest)) fr g cks e1 c) (hb:F.body=some c:=by exact rfl) (ha:App vs cap args:=by exact apX) (he:AE 0 args e1:=by exact aeX) (hl:Nat.ble args.length m=true:=by exact rfl) (hn:Nat.blt d n.sz=true:=by exact rfl) :
    SL P ρ n ops (.l Q) fr g cks e (⟨some d,.call { callee:=.value f,args:=xs.toArray,argTypes:=A },ty,ps,af,Option.none⟩::rest):=⟨fun a w Fa S=>by
  obtain rfl:=ha.h
  obtain rfl:=he.h
  exact wl_call (R:=fun v w=>∀ a',Fr n a' ((d,v)::e)→wpListIn (RW ρ) 0 P ops Q rest a' w) (wn rfl) rfl Fa hf hxs i.tc (An i.f hb i.n (M9 hl) fun a F'=>K.h a w F' S) rfl hn fun v a' w' h F'=>h a' F'⟩
theorem q_s2b {T T' E:TypeId} {x:Operand} {s:ByteArray} (hx:Bn e x=some (.string s)) [t1:TyU P T .string] [t2:TyU P T' (.slice E)] [t3:TyU P E (.int .u8)] (K:∀ g' v,Le g g'→RepSl g' s.data.toList v→SL P ρ n ops (.l Q) fr g' cks ((d,v)::e) rest) (hn:Nat.blt d n.sz=true:=by exact rfl) :
    SL P ρ n ops (.l Q) fr g cks e (⟨some d,.convert T T' x,ty,ps,af,Option.none⟩::rest) :=
  ⟨fun a w F S=>wl_s2b (wn rfl) rfl t1.h t2.h t3.h hx F S rfl hn fun g' v a' w' l h F' S'=>(K g' v l h).h a' w' F' S'⟩
def AlS {α:Type} [Rep α] (g:Gh) (ls:List (List α)) (cs:List Value):Prop:=AllSl g ls cs
theorem as0 {α:Type} [Rep α]:AlS g ([]:List (List α)) []:=trivial
theorem as1 {α:Type} [Rep α] {l:List α} {v:Value} {ls:List (List α)} {cs:List Value} (r:AlS g ls cs) (h:RepSl g l v:=by exact shX):AlS g (l::ls) (v::cs):=⟨h,r⟩
theorem asX {α:Type} [Rep α] {ls:List (List α)} {cs:List Value} (h:AlS g ls cs:=by first | exact as0 | exact as1 asX):AlS g ls cs:=h
theorem q_ixA {α:Type} [Rep α] {T E E' len:Nat} {x y:Operand} {ik:IntKind} {j:Int} {cs:List Value} {ls:List (List α)} {r:List α} {M:Md} (hx:Bn e x=some (.agg cs.toArray)) (hy:Bn e y=some (.int ik j)) [t1:TyU P T (.array len E)] [t2:TyU P E (.slice E')] [t3:TyS P E 1]
    (K:∀ v,RepSl g r v→SL P ρ n ops M fr g cks ((d,v)::e) rest) (h:at? ls j=some r:=by assumption) (hl:ls.length=len:=by exact rfl) (hs:AlS g ls cs:=by exact asX) (hn:Nat.blt d n.sz=true:=by exact rfl):SL P ρ n ops M fr g cks e (⟨some d,.index T x y,ty,ps,af,Option.none⟩::rest):=by
  obtain ⟨v,h1,h2⟩:=ev_indexASl (C:=fun w=>St g cks fr w) h t1.h t2.h t3.h hl hs hx hy
  exact q_ev (K v h1) h2 hn
section
variable {α : Type} [Rep α] {T T' E E' m bts : Nat} {x y : Operand} {v u : Value} {c c2 : Hl} {l r l' : List α} {r0 r1 : List Hl}
theorem st_pick {w:World} (S:St g cks fr w) (h:Pick c cks r0):St g (c::r0) fr w:=St0.perm S (h.h fr)
theorem q_appS (hx:Bn e x=some v) (hy:Bn e y=some u) [t1:TyU P T (.slice E)] [t2:TyU P T' (.slice E')] [t3:TyE P E m bts] (K:∀ v' c',OwnS g l' v' c'→SL P ρ n ops (.l Q) fr g (c'::r0) ((d,v')::e) rest)
    (hr:RepSl g r u:=by exact shX) (ho:OwnS g l v c:=by exact owX) (hm:m=Rep.n α:=by exact rfl) (hl:app? bts l r=some l':=by assumption) (hp:Pick c cks r0:=by exact pkX) (hn:Nat.blt d n.sz=true:=by exact rfl) :
    SL P ρ n ops (.l Q) fr g cks e (⟨some d,.call { callee:=.builtin .append,args:=#[x,y],argTypes:=#[T,T'] },ty,ps,af,Option.none⟩::rest):=by
  obtain ⟨z,h1,h2,h3⟩:=t3.h
  subst hm
  obtain ⟨cs,h4,h5⟩:=hr.reads
  exact ⟨fun a w F S=>Lk (k:=0) (wn rfl) rfl t1.h t2.h h1 h2 h3 F (st_pick S hp) hx hy rfl ho h4 rfl (h5 _ _ S) hl rfl hn fun v' c' a' w' h6 S' F'=>(K v' c' h6).h a' w' F' S'⟩
theorem q_appO (hx:Bn e x=some v) (hy:Bn e y=some u) [t1:TyU P T (.slice E)] [t2:TyU P T' (.slice E')] [t3:TyE P E m bts] (K:∀ v' c',OwnS g l' v' c'→SL P ρ n ops (.l Q) fr g (c'::c2::r1) ((d,v')::e) rest)
    (hr:OwnS g r u c2:=by exact owX) (ho:OwnS g l v c:=by exact owX) (hm:m=Rep.n α:=by exact rfl) (hl:app? bts l r=some l':=by assumption) (hp:Pick c cks r0:=by exact pkX) (hp2:Pick c2 r0 r1:=by exact pkX) (hn:Nat.blt d n.sz=true:=by exact rfl) :
    SL P ρ n ops (.l Q) fr g cks e (⟨some d,.call { callee:=.builtin .append,args:=#[x,y],argTypes:=#[T,T'] },ty,ps,af,Option.none⟩::rest):=by
  obtain ⟨z,h1,h2,h3⟩:=t3.h
  subst hm
  obtain ⟨cs,h4,h5⟩:=hr.reads
  have key:∀ w,St g cks fr w→St g (c::c2::r1) fr w:=fun w S=>by
    have:=st_pick S hp
    exact St0.perm this (Ee c (hp2.h fr))
  exact ⟨fun a w F S=>Lk (k:=0) (wn rfl) rfl t1.h t2.h h1 h2 h3 F (key w S) hx hy rfl ho h4 rfl (h5 _ _ _ 1 rfl (key w S)) hl rfl hn fun v' c' a' w' h6 S' F'=>(K v' c' h6).h a' w' F' S'⟩
theorem rc_list {β:Type} [Rep β] {l:List β} {v:Value} (h:RepSl g l v):Rep.rep g l [v]:=⟨_,rfl,h⟩
theorem rc_Fault {a0:Int} {a1:Int} {g:Gh}  : Rep.rep g (⟨a0,a1⟩:Fault) [.int .i64 a0,.int .i64 a1]:=rep_Fault_mk (x:=⟨a0,a1⟩)
theorem rc_Hunk {a0:Int} {a1:Ab} {a2:Ab} {g:Gh} {v1:Value} {v2:Value} (h1:RepSl g a1 v1) (h2:RepSl g a2 v2):Rep.rep g (⟨a0,a1,a2⟩:Hunk) [.int .i64 a0,v1,v2]:=rep_Hunk_mk (x:=⟨a0,a1,a2⟩) h1 h2
theorem rc_Patch {a0:(List Hunk)} {g:Gh} {v1:Value} (h1:RepSl g a0 v1):Rep.rep g (⟨a0⟩:Patch) [v1]:=rep_Patch_mk (x:=⟨a0⟩) h1
theorem rc_TreeChange {a0:Int} {a1:ByteArray} {a2:ByteArray} {a3:Ab} {a4:(List Hunk)} {g:Gh} {v1:Value} {v2:Value} (h1:RepSl g a3 v1) (h2:RepSl g a4 v2):Rep.rep g (⟨a0,a1,a2,a3,⟨a4⟩⟩:TreeChange) [.int .i64 a0,.string a1,.string a2,v1,v2]:=T5 (x:=⟨a0,a1,a2,a3,⟨a4⟩⟩) h1 h2
theorem rc_TreePatch {a0:(List TreeChange)} {g:Gh} {v1:Value} (h1:RepSl g a0 v1):Rep.rep g (⟨a0⟩:TreePatch) [v1]:=rep_TreePatch_mk (x:=⟨a0⟩) h1
theorem rc_ForgeEvent {a0:Int} {a1:Int} {a2:Int} {a3:Int} {a4:(List TreeChange)} {g:Gh} {v1:Value} (h1:RepSl g a4 v1):Rep.rep g (⟨a0,a1,a2,a3,⟨a4⟩⟩:ForgeEvent) [.int .i64 a0,.int .i64 a1,.int .i64 a2,.int .i64 a3,v1]:=Oz (x:=⟨a0,a1,a2,a3,⟨a4⟩⟩) h1
theorem rc_File {a0:ByteArray} {a1:Ab} {g:Gh} {v1:Value} (h1:RepSl g a1 v1):Rep.rep g (⟨a0,a1⟩:File) [.string a0,v1]:=rep_File_mk (x:=⟨a0,a1⟩) h1
theorem rc_FileTree {a0:(List File)} {g:Gh} {v1:Value} (h1:RepSl g a0 v1):Rep.rep g (⟨a0⟩:FileTree) [v1]:=V7 (x:=⟨a0⟩) h1
theorem rc_Developer_forge {a0:(List File)} {a1:Int} {a2:Int} {a3:Int} {g:Gh} {v1:Value} (h1:RepSl g a0 v1):Rep.rep g (⟨⟨a0⟩,a1,a2,a3⟩:Developer_forge) [v1,.int .i64 a1,.int .i64 a2,.int .i64 a3]:=W3 (x:=⟨⟨a0⟩,a1,a2,a3⟩) h1
theorem rc_Message_forge {a0:Int} {a1:Int} {a2:Int} {a3:Int} {a4:(List TreeChange)} {g:Gh} {v1:Value} (h1:RepSl g a4 v1):Rep.rep g (⟨a0,a1,a2,a3,⟨a4⟩⟩:Message_forge) [.int .i64 a0,.int .i64 a1,.int .i64 a2,.int .i64 a3,v1]:=O1 (x:=⟨a0,a1,a2,a3,⟨a4⟩⟩) h1
theorem rc_ForgeEntry {a0:Int} {a1:Int} {a2:(List TreeChange)} {g:Gh} {v1:Value} (h1:RepSl g a2 v1):Rep.rep g (⟨a0,a1,⟨a2⟩⟩:ForgeEntry) [.int .i64 a0,.int .i64 a1,v1]:=Aaj (x:=⟨a0,a1,⟨a2⟩⟩) h1
theorem rc_State_forge {a0:(List Int)} {a1:(List FileTree)} {a2:(List Developer_forge)} {a3:(List Message_forge)} {a4:(List ForgeEntry)} {g:Gh} {v1:Value} {v2:Value} {v3:Value} {v4:Value} {v5:Value} (h1:RepSl g a0 v1) (h2:RepSl g a1 v2) (h3:RepSl g a2 v3) (h4:RepSl g a3 v4) (h5:RepSl g a4 v5):Rep.rep g (⟨a0,a1,a2,a3,a4⟩:State_forge) [v1,v2,v3,v4,v5]:=rep_State_forge_mk (x:=⟨a0,a1,a2,a3,a4⟩) h1 h2 h3 h4 h5
theorem rc_Collector_diff {a0:(List Hunk)} {a1:Int} {a2:Bool} {g:Gh} {v1:Value} (h1:RepSl g a0 v1):Rep.rep g (⟨a0,a1,a2⟩:Collector_diff) [v1,.int .i64 a1,.bool a2]:=rep_Collector_diff_mk (x:=⟨a0,a1,a2⟩) h1
theorem rc_Step_digest {a0:Int} {a1:Int} {g:Gh}  : Rep.rep g (⟨a0,a1⟩:Step_digest) [.int .i64 a0,.int .i64 a1]:=rep_Step_digest_mk (x:=⟨a0,a1⟩)
theorem rc_Version_treecommute {a0:Bool} {a1:Ab} {g:Gh} {v1:Value} (h1:RepSl g a1 v1):Rep.rep g (⟨a0,a1⟩:Version_treecommute) [.bool a0,v1]:=Zm (x:=⟨a0,a1⟩) h1
theorem rc_Range_commute {a0:Int} {a1:Int} {a2:Int} {g:Gh}  : Rep.rep g (⟨a0,a1,a2⟩:Range_commute) [.int .i64 a0,.int .i64 a1,.int .i64 a2]:=rep_Range_commute_mk (x:=⟨a0,a1,a2⟩)
theorem rc_RangeX_commute {a0:Int} {a1:Int} {a2:(List Unit)} {g:Gh} {v1:Value} (h1:RepH g a2 v1):Rep.rep g (⟨a0,a1,a2⟩:RangeX_commute) [.int .i64 a0,.int .i64 a1,v1]:=Oa (x:=⟨a0,a1,a2⟩) h1
theorem rc_Chunk {a0:Bool} {a1:Ab} {a2:Ab} {a3:Ab} {a4:Ab} {g:Gh} {v1:Value} {v2:Value} {v3:Value} {v4:Value} (h1:RepSl g a1 v1) (h2:RepSl g a2 v2) (h3:RepSl g a3 v3) (h4:RepSl g a4 v4):Rep.rep g (⟨a0,a1,a2,a3,a4⟩:Chunk) [.bool a0,v1,v2,v3,v4]:=rep_Chunk_mk (x:=⟨a0,a1,a2,a3,a4⟩) h1 h2 h3 h4
theorem rc_Merger_merge3 {a0:(List Chunk)} {g:Gh} {v1:Value} (h1:RepSl g a0 v1):Rep.rep g (⟨a0⟩:Merger_merge3) [v1]:=rep_Merger_merge3_mk (x:=⟨a0⟩) h1
theorem rc_Arr2_Int {a0:Int} {a1:Int} {g:Gh}  : Rep.rep g (⟨a0,a1⟩:Arr2_Int) [.int .i64 a0,.int .i64 a1]:=rep_Arr2_Int_mk (x:=⟨a0,a1⟩)
theorem Abl {a0:Int} {a1:ByteArray} {g:Gh}  : Rep.rep g (⟨a0,a1⟩:Step_changeforgeref1) [.int .i64 a0,.string a1]:=Za (x:=⟨a0,a1⟩)
theorem Aaa {a0:Int} {a1:Int} {a2:Int} {a3:Int} {a4:Int} {a5:(List TreeChange)} {g:Gh} {v1:Value} (h1:RepSl g a5 v1):Rep.rep g (⟨a0,a1,a2,a3,a4,⟨a5⟩⟩:Letter_changeforgeref2) [.int .i64 a0,.int .i64 a1,.int .i64 a2,.int .i64 a3,.int .i64 a4,v1]:=X6 (x:=⟨a0,a1,a2,a3,a4,⟨a5⟩⟩) h1
theorem Aa9 {a0:(List FileTree)} {a1:(List ForgeEntry)} {a2:(List Int)} {a3:(List Int)} {a4:(List Int)} {a5:(List FileTree)} {a6:(List Letter_changeforgeref2)} {g:Gh} {v1:Value} {v2:Value} {v3:Value} {v4:Value} {v5:Value} {v6:Value} {v7:Value} (h1:RepSl g a0 v1) (h2:RepSl g a1 v2) (h3:RepSl g a2 v3) (h4:RepSl g a3 v4) (h5:RepSl g a4 v5) (h6:RepSl g a5 v6) (h7:RepSl g a6 v7):Rep.rep g (⟨a0,a1,a2,a3,a4,a5,a6⟩:Forge_changeforgeref2) [v1,v2,v3,v4,v5,v6,v7]:=Ys (x:=⟨a0,a1,a2,a3,a4,a5,a6⟩) h1 h2 h3 h4 h5 h6 h7
theorem repX {x:α} {cs:List Value} (h:Rep.rep g x cs:=by first | ((with_reducible show @Rep.rep Fault _ _ _ _);exact rc_Fault) | ((with_reducible show @Rep.rep Hunk _ _ _ _);exact rc_Hunk shX shX) | ((with_reducible show @Rep.rep Patch _ _ _ _);exact rc_Patch shX) | ((with_reducible show @Rep.rep TreeChange _ _ _ _);exact rc_TreeChange shX shX) | ((with_reducible show @Rep.rep TreePatch _ _ _ _);exact rc_TreePatch shX) | ((with_reducible show @Rep.rep ForgeEvent _ _ _ _);exact rc_ForgeEvent shX) | ((with_reducible show @Rep.rep File _ _ _ _);exact rc_File shX) | ((with_reducible show @Rep.rep FileTree _ _ _ _);exact rc_FileTree shX) | ((with_reducible show @Rep.rep Developer_forge _ _ _ _);exact rc_Developer_forge shX) | ((with_reducible show @Rep.rep Message_forge _ _ _ _);exact rc_Message_forge shX) | ((with_reducible show @Rep.rep ForgeEntry _ _ _ _);exact rc_ForgeEntry shX) | ((with_reducible show @Rep.rep State_forge _ _ _ _);exact rc_State_forge shX shX shX shX shX) | ((with_reducible show @Rep.rep Collector_diff _ _ _ _);exact rc_Collector_diff shX) | ((with_reducible show @Rep.rep Step_digest _ _ _ _);exact rc_Step_digest) | ((with_reducible show @Rep.rep Version_treecommute _ _ _ _);exact rc_Version_treecommute shX) | ((with_reducible show @Rep.rep Range_commute _ _ _ _);exact rc_Range_commute) | ((with_reducible show @Rep.rep RangeX_commute _ _ _ _);exact rc_RangeX_commute shX) | ((with_reducible show @Rep.rep Chunk _ _ _ _);exact rc_Chunk shX shX shX shX) | ((with_reducible show @Rep.rep Merger_merge3 _ _ _ _);exact rc_Merger_merge3 shX) | ((with_reducible show @Rep.rep Arr2_Int _ _ _ _);exact rc_Arr2_Int) | ((with_reducible show @Rep.rep Step_changeforgeref1 _ _ _ _);exact Abl) | ((with_reducible show @Rep.rep Letter_changeforgeref2 _ _ _ _);exact Aaa shX) | ((with_reducible show @Rep.rep Forge_changeforgeref2 _ _ _ _);exact Aa9 shX shX shX shX shX shX shX) | exact rfl | ((with_reducible show @Rep.rep (List _) _ _ _ _);exact rc_list shX) | fail):Rep.rep g x cs:=h
theorem setR {z':α} {l us o:List Value} {off:Nat} [q:SetL l us off o] (h:Rep.rep g z' o):Rep.rep g z' (l.take off++us++l.drop (off+us.length)):=by rw [q.h.1];exact h
theorem seX {z':α} {z:α} {us:List Value} {off:Nat} (h:∀ cs,Rep.rep g z cs→Rep.rep g z' (cs.take off++us++cs.drop (off+us.length)):=by
  intro cs o
  first | obtain rfl:=o | obtain ⟨_,rfl,_⟩:=o | obtain ⟨_,_,rfl,_,_⟩:=o | obtain ⟨_,_,_,rfl,_,_,_⟩:=o | obtain ⟨_,_,_,_,rfl,_,_,_,_⟩:=o | obtain ⟨_,_,_,_,_,rfl,_,_,_,_,_⟩:=o
  exact setR repX):∀ cs,Rep.rep g z cs→Rep.rep g z' (cs.take off++us++cs.drop (off+us.length)):=h
theorem at_stE {β:Type} {l:List β} {i:Int} {x y:β} (h:at? l i=some x):at? (l.set i.toNat y) i=some y:=by
  obtain ⟨h0,hi,_⟩:=Mk h
  unfold at?
  rw [Ad h0,List.getElem?_set_self hi]
theorem q_stE {off k:Nat} {i:Int} {z z':α} {us:List Value} (hx:Bn e x=some (N8 (Eq v i k) off)) (hy:Bn e y=some u) [s:TyS P T m] (K:∀ c' cs',OwnS g (l.set i.toNat z') v c'→Rep.rep g z' cs'→PtO g (Eq v i k) c' cs'→at? (l.set i.toNat z') i=some z'→SL P ρ n ops (.l Q) fr g (c'::r0) e rest)
    (ho:OwnS g l v c:=by exact owX) (hk:k=Rep.n α:=by exact rfl) (hi:at? l i=some z:=by assumption) (hcl:u.cells.toList=us:=by exact clX) (h1:∀ q∈us,Tq q=true:=by exact onsX) (hz:us.length=m:=by exact rfl) (hl:Nat.ble (off+us.length) k=true:=by exact rfl)
    (hrep:∀ cs,Rep.rep g z cs→Rep.rep g z' (cs.take off++us++cs.drop (off+us.length)):=by exact seX) (hp:Pick c cks r0:=by exact pkX) :
    SL P ρ n ops (.l Q) fr g cks e (⟨Option.none,.store T x y,ty,ps,af,Option.none⟩::rest):=by
  subst hk
  exact ⟨fun a w F S=>wl_storeE (k:=0) off (wn rfl) rfl F (st_pick S hp) ho hi rfl hx hy hcl (by rw [s.h,hz]) h1 rfl (M9 hl) hrep rfl fun c' w' h2 S'=>by
    obtain ⟨cs',h3,h4⟩:=elemPO h2 (at_stE hi)
    exact (K c' cs' h2 h3 h4 (at_stE hi)).h a w' F S'⟩
theorem q_stE0 {k:Nat} {i:Int} {z z':α} {us:List Value} (hx:Bn e x=some (Eq v i k)) (hy:Bn e y=some u) [s:TyS P T m] (K:∀ c' cs',OwnS g (l.set i.toNat z') v c'→Rep.rep g z' cs'→PtO g (Eq v i k) c' cs'→at? (l.set i.toNat z') i=some z'→SL P ρ n ops (.l Q) fr g (c'::r0) e rest)
    (ho:OwnS g l v c:=by exact owX) (hk:k=Rep.n α:=by exact rfl) (hi:at? l i=some z:=by assumption) (hcl:u.cells.toList=us:=by exact clX) (h1:∀ q∈us,Tq q=true:=by exact onsX) (hz:us.length=m:=by exact rfl) (hl:Nat.ble (0+us.length) k=true:=by exact rfl)
    (hrep:∀ cs,Rep.rep g z cs→Rep.rep g z' (cs.take 0++us++cs.drop (0+us.length)):=by exact seX) (hp:Pick c cks r0:=by exact pkX) :
    SL P ρ n ops (.l Q) fr g cks e (⟨Option.none,.store T x y,ty,ps,af,Option.none⟩::rest):=q_stE (off:=0) (by rw [Uu];exact hx) hy K ho hk hi hcl h1 hz hl hrep hp
theorem Xf {l0:List Oper} (hp:Pick c cks r0) (K:∀ g',Le g g'→RepSl g' l v→SL P ρ n ops (.l Q) fr g' r0 e l0) (h:Frz g l v c:=by exact frX):SL P ρ n ops (.l Q) fr g cks e l0 :=
  ⟨fun a w F S=>by
    obtain ⟨g',h1,h2,h3⟩:=frz S hp h
    exact (K g' h1 h3).h a w F h2⟩
theorem q_fzV {l0:List Oper} (hy:Bn e y=some v) (K:∀ g',Le g g'→RepSl g' l v→SL P ρ n ops (.l Q) fr g' r0 e (⟨Option.none,.store T x y,ty,ps,af,Option.none⟩::l0)) (h:Frz g l v c:=by exact frX) (hp:Pick c cks r0:=by exact pkX):SL P ρ n ops (.l Q) fr g cks e (⟨Option.none,.store T x y,ty,ps,af,Option.none⟩::l0):=Xf hp K h
theorem q_fzS {l0:List Oper} {lo hi:Option Operand} (hx:Bn e x=some v) (K:∀ g',Le g g'→RepSl g' l v→SL P ρ n ops (.l Q) fr g' r0 e (⟨some d,.slice T x lo hi Option.none,ty,ps,af,Option.none⟩::l0)) (h:Frz g l v c:=by exact frX) (hp:Pick c cks r0:=by exact pkX):SL P ρ n ops (.l Q) fr g cks e (⟨some d,.slice T x lo hi Option.none,ty,ps,af,Option.none⟩::l0):=Xf hp K h
theorem q_fzA {l0:List Oper} {f:Operand} {xs:List Operand} {A:Array TypeId} (k:Nat) (hk:xs[k]? = some x) (hx:Bn e x=some v) (K:∀ g',Le g g'→RepSl g' l v→SL P ρ n ops (.l Q) fr g' r0 e (⟨some d,.call { callee:=.value f,args:=xs.toArray,argTypes:=A },ty,ps,af,Option.none⟩::l0)) (h:Frz g l v c:=by exact frX) (hp:Pick c cks r0:=by exact pkX):SL P ρ n ops (.l Q) fr g cks e (⟨some d,.call { callee:=.value f,args:=xs.toArray,argTypes:=A },ty,ps,af,Option.none⟩::l0):=Xf hp K h
structure FzI {α:Type} [Rep α] (g:Gh) (cks r0:List Hl) (cs:List Value) (l:List α) (v:Value):Prop where
  h:∃ c,Frz g l v c∧Pick c cks r0
theorem fzi_hd {α:Type} {R:Rep α} {g:Gh} {cks r0:List Hl} {cs:List Value} {l:List α} {v:Value} {c:Hl} (h:Frz g l v c) (hp:Pick c cks r0):FzI g cks r0 (v::cs) l v:=⟨c,h,hp⟩
theorem fzi_tl {α:Type} {R:Rep α} {g:Gh} {cks r0:List Hl} {cs:List Value} {l:List α} {v x:Value} (h:FzI g cks r0 cs l v):FzI g cks r0 (x::cs) l v:=⟨h.h⟩
theorem fziX {α:Type} {R:Rep α} {g:Gh} {cks r0:List Hl} {cs:List Value} {l:List α} {v:Value} (h:FzI g cks r0 cs l v:=by first | (apply fzi_tl;exact fziX) | (apply fzi_hd;(focus exact frX);exact pkX) | fail):FzI g cks r0 cs l v:=h
theorem fzgX {α:Type} {R:Rep α} {x:Operand} {g:Gh} {cks r0:List Hl} {cs:List Value} {l:List α} {v:Value} (h:Bn e x=some (.agg cs.toArray)∧FzI g cks r0 cs l v:=by first | (refine And.intro ?_ ?_;(focus exact rfl);exact fziX) | fail):Bn e x=some (.agg cs.toArray)∧FzI g cks r0 cs l v:=h
theorem q_fzG {l0:List Oper} {f:Operand} {xs:List Operand} {A:Array TypeId} {cs:List Value} (k:Nat) (hk:xs[k]? = some x) (K:∀ g',Le g g'→RepSl g' l v→SL P ρ n ops (.l Q) fr g' r0 e (⟨some d,.call { callee:=.value f,args:=xs.toArray,argTypes:=A },ty,ps,af,Option.none⟩::l0)) (h:Bn e x=some (.agg cs.toArray)∧FzI g cks r0 cs l v:=by exact fzgX):SL P ρ n ops (.l Q) fr g cks e (⟨some d,.call { callee:=.value f,args:=xs.toArray,argTypes:=A },ty,ps,af,Option.none⟩::l0):=by
  obtain ⟨c,h1,h2⟩:=h.2.h
  exact Xf h2 K h1
theorem q_cutS {lo hi:Option Operand} {p q:Int} (hx:Bn e x=some v) [t1:TyU P T (.slice E)] [t2:TyS P E m] (K:∀ v',RepSl g l' v'→SL P ρ n ops M fr g cks ((d,v')::e) rest)
    (hr:RepSl g l v:=by exact shX) (hlo:bnd e lo 0 p:=by first | exact bnd0 _ | exact bndV rfl) (hhi:bnd e hi l.length q:=by first | exact bnd0 _ | exact bndV rfl) (hc:cut? l p q=some l':=by assumption) (hm:m=Rep.n α:=by exact rfl) (hn:Nat.blt d n.sz=true:=by exact rfl) :
    SL P ρ n ops M fr g cks e (⟨some d,.slice T x lo hi Option.none,ty,ps,af,Option.none⟩::rest):=by
  subst hm
  exact q_evE (ev_cut hr hc t1.h t2.h hx hlo hhi) hn K
theorem q_cutO {lo hi:Option Operand} {q:Int} (hx:Bn e x=some v) [t1:TyU P T (.slice E)] [t2:TyS P E m] (K:∀ v',OwnS g l' v' c→SL P ρ n ops M fr g cks ((d,v')::e) rest)
    (hr:OwnS g l v c:=by exact owX) (hlo:bnd e lo 0 0:=by first | exact bnd0 _ | exact bndV rfl) (hhi:bnd e hi l.length q:=by first | exact bnd0 _ | exact bndV rfl) (hc:cut? l 0 q=some l':=by assumption) (hm:m=Rep.n α:=by exact rfl) (hn:Nat.blt d n.sz=true:=by exact rfl) :
    SL P ρ n ops M fr g cks e (⟨some d,.slice T x lo hi Option.none,ty,ps,af,Option.none⟩::rest):=by
  subst hm
  exact q_evE (ev_cutOwn hr hc t1.h t2.h hx hlo hhi) hn K
section
variable {e0 : List (Nat × Value)} {t : Nat} {b : Bool} {l0 rest' : List Oper}
theorem sg_onE {op:Op} {Φ:Value→Prop} {j s:Nat} {want b':Bool} (hj:(ops[j]?).bind (·.dst)=some s) (hb:Kf e s=some (.bool b')) (hw:b'=want) (hev:∃ v,Φ v∧Ev P n e (fun w=>St g cks fr w) op v) (hs:Nat.blt s n.sz=true) (hn:Nat.blt d n.sz=true) (K:∀ v,Φ v→SG P ρ n ops M fr g cks e0 t b rest ((d,v)::e) l0):SG P ρ n ops M fr g cks e0 t b rest e (⟨some d,op,ty,ps,af,some (j,want)⟩::l0):=by
  obtain ⟨v,hv,he⟩:=hev
  exact sg_on hj hb hw (K v hv) he hs hn
theorem sg_cutS {lo hi:Option Operand} {p q:Int} {j s:Nat} {want b':Bool} (hj:(ops[j]?).bind (·.dst)=some s) (hb:Kf e s=some (.bool b')) (hw:b'=want) (hx:Bn e x=some v) [t1:TyU P T (.slice E)] [t2:TyS P E m] (K:∀ v',RepSl g l' v'→SG P ρ n ops M fr g cks e0 t b rest ((d,v')::e) l0)
    (hr:RepSl g l v:=by exact shX) (hlo:bnd e lo 0 p:=by first | exact bnd0 _ | exact bndV rfl) (hhi:bnd e hi l.length q:=by first | exact bnd0 _ | exact bndV rfl) (hc:cut? l p q=some l':=by assumption) (hm:m=Rep.n α:=by exact rfl) (hs:Nat.blt s n.sz=true:=by exact rfl) (hn:Nat.blt d n.sz=true:=by exact rfl) :
    SG P ρ n ops M fr g cks e0 t b rest e (⟨some d,.slice T x lo hi Option.none,ty,ps,af,some (j,want)⟩::l0):=by
  subst hm
  exact sg_onE hj hb hw (ev_cut hr hc t1.h t2.h hx hlo hhi) hs hn K
end
def PtL (e:List (Nat×Value)) (k:Nat) (ps:List (Nat×Operand)) (vs:List Value):Prop:=ps.map (fun p=>(p.1,Bn e p.2))=(Q7 k vs).map (fun p=>(p.1,some p.2))
theorem pt_nil {k:Nat}:PtL e k [] []:=rfl
theorem pt_cons {k:Nat} {x:Operand} {ps:List (Nat×Operand)} {v:Value} {vs:List Value} (h:Bn e x=some v) (t:PtL e (k+1) ps vs):PtL e k ((k,x)::ps) (v::vs):=by
  show (k,Bn e x)::_=(k,some v)::_
  rw [h];exact congrArg _ t
theorem ptlX {k:Nat} {ps:List (Nat×Operand)} {vs:List Value} (h:PtL e k ps vs:=by first | exact pt_nil | exact pt_cons rfl ptlX):PtL e k ps vs:=h
theorem s1X {v:Value} {m:Nat} (h:v.cells.size=m:=by first | exact rfl | exact RepSl.csz shX | exact OwnS.csz owX):v.cells.size=m:=h
theorem szX {vs:List Value} {m:Nat} (h:∀ v∈vs,v.cells.size=m:=by first | exact Oj | exact Mv s1X szX):∀ v∈vs,v.cells.size=m:=h
theorem coaX {vs cs:List Value} (h:Ku vs=cs:=by first | exact Nd | exact Ly clX coaX):Ku vs=cs:=h
structure Sp (k:Nat) (cs c r:List Value):Prop where
  h:c++r=cs
  k:c.length=k
theorem sp0 {cs:List Value}:Sp 0 cs [] cs:=⟨rfl,rfl⟩
theorem sp1 {k:Nat} {x:Value} {cs c r:List Value} (h:Sp k cs c r):Sp (k+1) (x::cs) (x::c) r:=⟨congrArg (x :: ·) h.h,congrArg (· + 1) h.k⟩
theorem spX {k:Nat} {cs c r:List Value} (h:Sp k cs c r:=by first | exact sp0 | (apply sp1;exact spX) | fail):Sp k cs c r:=h
theorem c3X {p:Prop} (h:p:=by first | (refine And.intro ?_ (And.intro ?_ ?_);(focus exact spX);(focus exact repX);exact catX) | fail):p:=h
theorem cat1 {x:α} {cs c r:List Value} (h:Sp (Rep.n α) cs c r∧Rep.rep g x c∧Cat g l r:=by exact c3X):Cat g (x::l) cs:=h.1.h ▸ Cat.cons h.2.1 h.2.2
theorem catX {l:List α} {cs:List Value} (h:Cat g l cs:=by first | exact Cat.nil _ | exact cat1 | fail):Cat g l cs:=h
end
theorem q_lit {α:Type} {T E L b m:Nat} {parts:List (Nat×Operand)} {vs cs:List Value} {l:List α} [t1:TyU P T (.slice E)] [t2:TyA P E α] [Rep α] [t3:TyE P E m b] (hp:PtL e 0 parts vs)
    (K:∀ v c,OwnS g l v c→SL P ρ n ops (.l Q) fr g (c::cks) ((d,v)::e) rest) (hL:vs.length=L:=by exact rfl) (hm:m=Rep.n α:=by exact rfl) (hcs:Ku vs=cs:=by exact coaX) (hcat:Cat g l cs:=by exact catX) (hv:∀ v∈vs,v.cells.size=m:=by exact szX) (hl:Nat.ble (vs.length * m) 16777216=true:=by exact rfl) (hll:L=l.length:=by exact rfl) (hn:Nat.blt d n.sz=true:=by exact rfl) :
    SL P ρ n ops (.l Q) fr g cks e (⟨some d,.buildSlice T L parts.toArray,ty,ps,af,Option.none⟩::rest):=by
  obtain ⟨z,h1,h2,h3⟩:=t3.h
  subst hm
  exact ⟨fun a w F S=>Og (wn rfl) rfl hL hp t1.h h1 hv hl hcat hcs hll F S rfl hn fun v c a' w' ho F' S'=>(K v c ho).h a' w' F' S'⟩
theorem fzlX {α:Type} {R:Rep α} {g:Gh} {cks r0:List Hl} {vs cs:List Value} {l:List α} {v:Value} (h:Ku vs=cs∧FzI g cks r0 cs l v:=by first | (refine And.intro ?_ ?_;(focus exact coaX);exact fziX) | fail):Ku vs=cs∧FzI g cks r0 cs l v:=h
theorem q_fzL {α:Type} {R:Rep α} {T L:Nat} {parts:List (Nat×Operand)} {vs cs:List Value} {r0:List Hl} {l:List α} {v:Value} {l0:List Oper} (hp:PtL e 0 parts vs) (K:∀ g',Le g g'→RepSl g' l v→SL P ρ n ops (.l Q) fr g' r0 e (⟨some d,.buildSlice T L parts.toArray,ty,ps,af,Option.none⟩::l0))
    (h:Ku vs=cs∧FzI g cks r0 cs l v:=by exact fzlX):SL P ρ n ops (.l Q) fr g cks e (⟨some d,.buildSlice T L parts.toArray,ty,ps,af,Option.none⟩::l0):=by
  obtain ⟨c,h1,h2⟩:=h.2.h
  exact Xf h2 K h1
theorem q_make {α:Type} [Rep α] {T E m b:Nat} {x:Operand} {k:Int} {x0:α} {l:List α} {cs:List Value} [t1:TyU P T (.slice E)] [t2:TyE P E m b] [t3:TyZ P E cs] (hx:Bn e x=some (.int .i64 k))
    (K:∀ v c,OwnS g l v c→SL P ρ n ops (.l Q) fr g (c::cks) ((d,v)::e) rest) (hl:mk? b k x0=some l:=by assumption) (hz:∀ g,Rep.rep g x0 cs:=by intro g;exact repX) (hm:m=Rep.n α:=by exact rfl) (hn:Nat.blt d n.sz=true:=by exact rfl) :
    SL P ρ n ops (.l Q) fr g cks e (⟨some d,.makeSlice T x x,ty,ps,af,Option.none⟩::rest):=by
  subst hm
  obtain ⟨z,h1,h2,h3⟩:=t2.h
  obtain ⟨z',h4,h5⟩:=t3.h
  have hzz:z'=z:=by rw [h1.zero] at h4;exact (Gg h4).symm
  subst hzz
  exact ⟨fun a w F S=>Zb (wn rfl) rfl t1.h h1 (fun g=>by rw [h5];exact hz g) hx hl h3 F S rfl hn fun v c a' w' h6 F' S'=>(K v c h6).h a' w' F' S'⟩
structure SD (P:Program) (ρ:Option Nat) (n:Fw) (ops:List Oper) (NS:List Nat) (Q:Exit→Act→World→Prop) (fr:Hl) (g:Gh) (cks:List Hl) (e:List (Nat×Value)) (D:List Nat) (pend:List (Nat×Value)):Prop where
  h:∀ a w,Fr n a e→St g cks fr w→DV P ρ ops NS Q D pend a w
def memN:List Nat→Nat→Bool
  | [],_=>false
  | x::r,y=>bif Nat.beq x y then true else memN r y
def isQ (o:Oper):Bool:=match o.op with
  | .alloc _ | .box _ _ | .store _ _ _ | .buildSlice _ _ _ | .makeSlice _ _ _ | .makeMap _ _ | .mapUpdate _ _ _ _=>false
  | .call { callee:=.value (.func f),args:=_,argTypes:=_ }=>false
  | .call { callee:=.value _,args:=_,argTypes:=_ }=>false
  | .call { callee:=.builtin .append,args:=_,argTypes:=_ }=>false
  | .call { callee:=.builtin .copy,args:=_,argTypes:=_ }=>false
  | .call { callee:=.builtin .clear,args:=_,argTypes:=_ }=>false
  | _=>true
def isQc (P:Program) (o:Oper):Bool:=match o.op with
  | .call { callee:=.value _,args:=_,argTypes:=A }=>(match P.underlying o.type with | some (.int _) | some .bool | some .string=>true | _=>false) && A.all (fun T=>match P.underlying T with | some (.pointer _)=>false | _=>true)
  | .convert _ T _=>(match P.underlying T with | some (.slice _)=>false | _=>true)
  | _=>isQ o
theorem sc_quiet' {id:Nat} {l:List Oper} (hm:P.follows .mixedOrders=true) (hB:(Region.lexB .any l.toArray && l.all (isQc P))=true) (h:SL P Option.none n l.toArray (.q (fun a'=>∀ w',St g cks fr w'→Q .normal a' w')) fr g cks e l):SC P Option.none n Q fr g cks e (.region id l.toArray true):=sc_quiet hm (by simp only [Cv] at hB;exact hB.1) h
def allN:List Nat→List Nat→Bool
  | _,[]=>true
  | D,x::r=>bif memN D x then allN D r else false
def rdy (q:Oper→Bool) (D:List Nat):List Oper→List Nat→List Nat
  | o::r,i::is=>bif memN D i then rdy q D r is else bif q o && allN D (Nn o) then i::rdy q D r is else rdy q D r is
  | _,_=>[]
section
variable {ops : List Oper} {NS D : List Nat} {pend pend' : List (Nat × Value)} {i k : Nat} {op : Op} {v : Value}
theorem sd_go {id:Nat} (hm:P.follows .mixedOrders=true) (hok:okV ops NS=true) (K:OkV ops NS→SD P ρ n ops NS Q fr g cks e [] []):SC P ρ n Q fr g cks e (.region id ops.toArray true) :=
  ⟨fun a w F S=>Ot NS hm S (fun ok w S=>(K ok).h a w F S) hok⟩
def nsOf (ops:List Oper):List Nat :=
  let N:=List.range ops.length
  let clo:=Wc [] ops
  let looks:=ops.map (Oper.looksAt ops.toArray)
  let dsts:=ops.map (·.dst)
  N.filter fun i=>match dsts.getD i Option.none with
    | some d=>N.any fun j=>(!(Nat.beq i j) && (match dsts.getD j Option.none with | some d'=>Nat.beq d d' | Option.none=>false)) || (!((clo.getD j []).contains i) && (looks.getD j []).contains d)
    | Option.none=>false
theorem sd_goN {id:Nat} (hm:P.follows .mixedOrders=true) (hok:okV ops (nsOf ops)=true) (K:OkV ops (nsOf ops)→SD P ρ n ops (nsOf ops) Q fr g cks e [] []):SC P ρ n Q fr g cks e (.region id ops.toArray true):=sd_go hm hok K
structure SA (P:Program) (ρ:Option Nat) (n:Fw) (ops:List Oper) (NS:List Nat) (Q:Exit→Act→World→Prop) (fr:Hl) (g:Gh) (cks:List Hl) (e:List (Nat×Value)) (D:List Nat) (pend:List (Nat×Value)) (i:Nat) (o:Oper):Prop where
  h:ops[i]? = some o→∀ a w,Fr n a e→St g cks fr w→DV P ρ ops NS Q D pend a w
theorem nq0:([]:List Nat).contains i=false:=rfl
theorem sd_at {q:Oper→Bool} {o:Oper} (hx:(rdy q D ops nums)[k]? = some i) (ho:ops[i]? = some o) (h:SA P ρ n ops NS Q fr g cks e D pend i o):SD P ρ n ops NS Q fr g cks e D pend:=⟨h.h ho⟩
theorem sa_et (K:SD P ρ n ops NS Q fr g cks ((d,v)::e) (i::D) pend) (hev:Ev P n e (fun _=>True) op v:=by exact evX) (ok:OkV ops NS:=by assumption) (hn:Nat.blt d n.sz=true:=by exact rfl) (hi:Q6 ops D i=true:=by kernel_rfl) (hq:NS.contains i=false:=by first | with_reducible exact nq0 | decide +kernel):SA P ρ n ops NS Q fr g cks e D pend i ⟨some d,op,ty,ps,af,Option.none⟩ :=
  ⟨fun ho a w F S=>K0 ok i ho hev F rfl (fun a' F'=>K.h a' w F' S) rfl hn hi hq⟩
theorem sa_ev (K:SD P ρ n ops NS Q fr g cks ((d,v)::e) (i::D) ((i,v)::pend)) (hev:Ev P n e (fun w=>St g cks fr w) op v:=by exact evX) (ok:OkV ops NS:=by assumption) (hn:Nat.blt d n.sz=true:=by exact rfl) (hi:Q6 ops D i=true:=by kernel_rfl) (hq:NS.contains i=false:=by first | with_reducible exact nq0 | decide +kernel):SA P ρ n ops NS Q fr g cks e D pend i ⟨some d,op,ty,ps,af,Option.none⟩ :=
  ⟨fun ho a w F S=>dv_ev ok i ho hev F S rfl (fun a' F'=>K.h a' w F' S) rfl hn hi hq⟩
theorem sa_etg {j t:Nat} {want b:Bool} (hj:(ops[j]?).bind (·.dst)=some t) (hb:Kf e t=some (.bool b)) (hw:b=want) (K:SD P ρ n ops NS Q fr g cks ((d,v)::e) (i::D) pend) (hev:Ev P n e (fun _=>True) op v:=by exact evX) (ok:OkV ops NS:=by assumption) (ht:Nat.blt t n.sz=true:=by exact rfl) (hn:Nat.blt d n.sz=true:=by exact rfl) (hi:Q6 ops D i=true:=by kernel_rfl) (hq:NS.contains i=false:=by first | with_reducible exact nq0 | decide +kernel):SA P ρ n ops NS Q fr g cks e D pend i ⟨some d,op,ty,ps,af,some (j,want)⟩ :=
  ⟨fun ho a w F S=>dv_etg ok i ho rfl hj ht hb hw hev F rfl hn (fun a' F'=>K.h a' w F' S) hi hq⟩
theorem sa_evg {j t:Nat} {want b:Bool} (hj:(ops[j]?).bind (·.dst)=some t) (hb:Kf e t=some (.bool b)) (hw:b=want) (K:SD P ρ n ops NS Q fr g cks ((d,v)::e) (i::D) ((i,v)::pend)) (hev:Ev P n e (fun w=>St g cks fr w) op v:=by exact evX) (ok:OkV ops NS:=by assumption) (ht:Nat.blt t n.sz=true:=by exact rfl) (hn:Nat.blt d n.sz=true:=by exact rfl) (hi:Q6 ops D i=true:=by kernel_rfl) (hq:NS.contains i=false:=by first | with_reducible exact nq0 | decide +kernel):SA P ρ n ops NS Q fr g cks e D pend i ⟨some d,op,ty,ps,af,some (j,want)⟩ :=
  ⟨fun ho a w F S=>dv_evg ok i ho rfl hj ht hb hw hev F S rfl hn (fun a' F'=>K.h a' w F' S) hi hq⟩
theorem sa_skip {j t:Nat} {want b:Bool} (hj:(ops[j]?).bind (·.dst)=some t) (hb:Kf e t=some (.bool b)) (hw:(b == want)=false) (K:SD P ρ n ops NS Q fr g cks ((d,undef)::e) (i::D) pend) (ok:OkV ops NS:=by assumption) (ht:Nat.blt t n.sz=true:=by exact rfl) (hn:Nat.blt d n.sz=true:=by exact rfl) (hi:Q6 ops D i=true:=by kernel_rfl) (hq:NS.contains i=false:=by first | with_reducible exact nq0 | decide +kernel):SA P ρ n ops NS Q fr g cks e D pend i ⟨some d,op,ty,ps,af,some (j,want)⟩ :=
  ⟨fun ho a w F S=>Mo ok i ho rfl hj ht hb hw F rfl hn (fun a' F'=>K.h a' w F' S) hi hq⟩
theorem sa_skipu {j t:Nat} {want:Bool} (hj:(ops[j]?).bind (·.dst)=some t) (hb:Kf e t=some undef) (K:SD P ρ n ops NS Q fr g cks ((d,undef)::e) (i::D) pend) (ok:OkV ops NS:=by assumption) (ht:Nat.blt t n.sz=true:=by exact rfl) (hn:Nat.blt d n.sz=true:=by exact rfl) (hi:Q6 ops D i=true:=by kernel_rfl) (hq:NS.contains i=false:=by first | with_reducible exact nq0 | decide +kernel):SA P ρ n ops NS Q fr g cks e D pend i ⟨some d,op,ty,ps,af,some (j,want)⟩ :=
  ⟨fun ho a w F S=>dv_skipu ok i ho rfl hj ht hb F rfl hn (fun a' F'=>K.h a' w F' S) hi hq⟩
theorem sd_hasq (hx:(rdy isQ D ops nums)[k]? = some i) (h:SD P ρ n ops NS Q fr g cks e D pend):SD P ρ n ops NS Q fr g cks e D pend:=h
def PdS (C:List Nat) (pend pend':List (Nat×Value)):Prop:=∀ p∈pend,p.1 ∉ C→p∈pend'
theorem pds_nil {C:List Nat}:PdS C [] []:=fun _ h=>by cases h
theorem pds_drop {C:List Nat} (h:C.contains i=true) (r:PdS C pend pend'):PdS C ((i,v)::pend) pend':=fun p hp hc=>by
  rcases Bf.1 hp with rfl | hp
  · exact absurd (by simpa using h) hc
  · exact r p hp hc
theorem pds_keep {C:List Nat} (r:PdS C pend pend'):PdS C ((i,v)::pend) ((i,v)::pend'):=fun p hp hc=>by
  rcases Bf.1 hp with rfl | hp
  · exact Ce
  · exact Bk _ (r p hp hc)
theorem pdsX {C:List Nat} (h:PdS C pend pend':=by first | exact pds_nil | exact pds_drop (by decide +kernel) pdsX | exact pds_keep pdsX):PdS C pend pend':=h
structure FkX (P:Program) (ρ:Option Nat) (n:Fw) (ops:List Oper) (NS:List Nat) (Q:Exit→Act→World→Prop) (fr:Hl) (g:Gh) (cks:List Hl) (e:List (Nat×Value)) (D:List Nat) (pend:List (Nat×Value)) (R:List Nat):Prop where
  h:∀ a w,Fr n a e→St g cks fr w→∀ i∈R,∀ o,ops[i]? = some o→∃ pend',(∀ p∈pend,p.1 ∉ (Wc [] ops).getD i []→p∈pend')∧wpListIn (RW ρ) 0 P ops.toArray (DQ P ρ ops NS Q (i::D) pend') [o] a w
theorem fk_nil:FkX P ρ n ops NS Q fr g cks e D pend []:=⟨fun _ _ _ _ _ h=>by cases h⟩
theorem fk_cons {R:List Nat} {o:Oper} (ho:ops[i]? = some o) (hp:PdS ((Wc [] ops).getD i []) pend pend') (h:SL P ρ n ops.toArray (.l (DQ P ρ ops NS Q (i::D) pend')) fr g cks e [o]) (r:FkX P ρ n ops NS Q fr g cks e D pend R):FkX P ρ n ops NS Q fr g cks e D pend (i::R):=⟨fun a w F S j hj o' ho'=>by
  rcases Bf.1 hj with rfl | hj
  · rw [ho] at ho';cases ho'
    exact ⟨pend',hp,h.h a w F S⟩
  · exact r.h a w F S j hj o' ho'⟩
theorem sd_nz {R:List Nat} (hx:rdy (fun _=>true) D ops nums=i::R) (h:FkX P ρ n ops NS Q fr g cks e D pend (i::R)) (ok:OkV ops NS:=by assumption) (hR:okAlone ops D (rdy (fun _=>true) D ops nums)=true:=by kernel_rfl):SD P ρ n ops NS Q fr g cks e D pend :=
  ⟨fun a w F S=>DV.noisy ok hR (by rw [hx];simp) fun j hj=>h.h a w F S j (by rw [← hx];exact hj)⟩
theorem sd_fin (hx:rdy (fun _=>true) D ops nums=[]) (h:SE n fr g cks e (Q .normal)) (ok:OkV ops NS:=by assumption) (hk:okAll ops D=true:=by kernel_rfl):SD P ρ n ops NS Q fr g cks e D pend:=⟨fun a w F S=>L9 ok (h.h a w F S) hk⟩
def PdX (P:Program) (n:Fw) (ops:List Oper) (fr:Hl) (g:Gh) (cks:List Hl) (e:List (Nat×Value)) (pend:List (Nat×Value)):Prop:=∀ a w,Fr n a e→St g cks fr w→Pend P ops a w pend
theorem pd_nil:PdX P n ops fr g cks e []:=fun _ _ _ _=>trivial
theorem pd_cons (ho:ops[i]? = some ⟨some d,op,ty,ps,af,Option.none⟩) (r:PdX P n ops fr g cks e pend) (hev:Ev P n e (fun w=>St g cks fr w) op v:=by exact evX):PdX P n ops fr g cks e ((i,v)::pend):=fun a w F S=>⟨yl_ev ho rfl hev F S,r a w F S⟩
theorem pd_cong {j t:Nat} {want b:Bool} (ho:ops[i]? = some ⟨some d,op,ty,ps,af,some (j,want)⟩) (hj:(ops[j]?).bind (·.dst)=some t) (hb:Kf e t=some (.bool b)) (hw:b=want) (r:PdX P n ops fr g cks e pend) (hev:Ev P n e (fun w=>St g cks fr w) op v:=by exact evX) (ht:Nat.blt t n.sz=true:=by exact rfl):PdX P n ops fr g cks e ((i,v)::pend):=fun a w F S=>⟨yl_evg ho rfl hj ht hb hw hev F S,r a w F S⟩
theorem pdX (h:PdX P n ops fr g cks e pend:=by first | exact pd_nil | exact pd_cons rfl pdX | exact pd_cong rfl rfl rfl (by first | exact rfl | assumption) pdX):PdX P n ops fr g cks e pend:=h
theorem se_dq (h:SD P ρ n ops NS Q fr g cks e D pend) (hp:PdX P n ops fr g cks e pend:=by exact pdX):SE n fr g cks e (DQ P ρ ops NS Q D pend .normal):=⟨fun a w F S=>H5 (hp a w F S) (h.h a w F S)⟩
end
theorem se_post {fn:Func} {R:Ending→World→Prop} {m:Nat} {rs:List ResultVar} {vs:List Value} (hr:fn.results=rs.toArray) (h:∀ w,St g cks fr w→Qx P e w rs vs) (hR:∀ w,St g cks fr w→R (.returned (pack vs)) w):SE ⟨m,[]⟩ fr g cks e (bodyPost P fn R .ret) :=
  ⟨fun a w F S=>post_r vs F hr (h w S) (hR w S)⟩
theorem se_postn {fn:Func} {R:Ending→World→Prop} {m:Nat} {rs:List ResultVar} {vs:List Value} (hr:fn.results=rs.toArray) (h:∀ w,St g cks fr w→Qx P e w rs vs) (hR:∀ w,St g cks fr w→R (.returned (pack vs)) w):SE ⟨m,[]⟩ fr g cks e (bodyPost P fn R .normal) :=
  ⟨fun a w F S=>post_n vs F hr (h w S) (hR w S)⟩
def ResX (P:Program) (e:List (Nat×Value)) (g:Gh) (cks:List Hl) (fr:Hl) (rs:List ResultVar) (vs:List Value):Prop:=∀ w,St g cks fr w→Qx P e w rs vs
theorem rx_nil:ResX P e g cks fr [] []:=fun _ _=>Mz
section
variable {rs : List ResultVar} {vs : List Value} {t T b z : Nat} {v : Value} {l cs : List Value} {f : List Value → List Hl} {u : TypeDesc}
theorem rx_t (h:Kf e t=some v) (r:ResX P e g cks fr rs vs):ResX P e g cks fr (.tmp t::rs) (v::vs):=fun w S=>H6 (resT h) (r w S)
theorem rx_1 (h:Kf e t=some (bp b 0)) [i:InB cks b l f] [q:TyU P T u] (r:ResX P e g cks fr rs vs) (hd:W9 u=false:=by exact rfl) (hv:l[0]? = some v:=by exact rfl):ResX P e g cks fr (.cell t T::rs) (v::vs):=fun w S=>by
  obtain ⟨k,t',h1,_⟩:=i.h
  cases l with
  | nil=>cases hv
  | cons c l=>cases hv;exact H6 (res1 h q.h hd (Ur k h1 0 (by simp) (by simp) w S)) (r w S)
theorem rx_A (h:Kf e t=some (bp b 0)) [i:InB cks b l f] [q:TyU P T u] [s:TyS P T z] [q':TakeL l 0 z cs] (r:ResX P e g cks fr rs vs) (hd:W9 u=true:=by exact rfl):ResX P e g cks fr (.cell t T::rs) (.agg cs.toArray::vs):=fun w S=>by
  obtain ⟨k,t',h1,_⟩:=i.h
  obtain ⟨h2,h3,h4⟩:=q'.h
  subst h4
  exact H6 (resA h q.h hd (Ur k h1 0 h2 h3 w S) s.h) (r w S)
end
theorem rxX {rs:List ResultVar} {vs:List Value} (h:ResX P e g cks fr rs vs:=by first | exact rx_nil | ((with_reducible show ResX _ _ _ _ _ (.tmp _::_) _);exact rx_t rfl rxX) | ((with_reducible show ResX _ _ _ _ _ (.cell _ _::_) _);first | exact rx_1 rfl rxX | exact rx_A rfl rxX)):ResX P e g cks fr rs vs:=h
section
variable {F0 : Func} {rs : List ResultVar} {vs : List Value} {v : Value} {m : Nat} {e0 : List (Nat × Value)} {n0 : Fw}
theorem pk1:pack [v]=v:=rfl
theorem pk2 {u:Value}:pack (v::u::vs)=.tuple (v::u::vs).toArray:=rfl
theorem pk0:pack []=.tuple [].toArray:=rfl
theorem se_ir (hr:F0.results=rs.toArray) (h:ResX P e g cks fr rs vs) (K:SL P ρ n0 ops (.l Q) fr g cks ((d,v)::e0) rest) (hp:pack vs=v:=by first | exact pk1 | exact pk2 | exact pk0):SE ⟨m,[]⟩ fr g cks e (bodyPost P F0 (IR P ρ n0 ops Q d e0 rest) .ret):=by
  subst hp
  exact se_post hr h fun w S=>⟨_,rfl,fun a' F'=>K.h a' w F' S⟩
theorem se_irn (hr:F0.results=rs.toArray) (h:ResX P e g cks fr rs vs) (K:SL P ρ n0 ops (.l Q) fr g cks ((d,v)::e0) rest) (hp:pack vs=v:=by first | exact pk1 | exact pk2 | exact pk0):SE ⟨m,[]⟩ fr g cks e (bodyPost P F0 (IR P ρ n0 ops Q d e0 rest) .normal):=by
  subst hp
  exact se_postn hr h fun w S=>⟨_,rfl,fun a' F'=>K.h a' w F' S⟩
end
class LH {σ ρ:Type} (m:σ→Option (Step σ ρ)) (K:outParam (List Nat)) (J:outParam (Gh→σ→List (Nat×Value)→List Hl→Prop)):Prop where
  t:True:=trivial
structure Lv {σ ρ:Type} (y:Step σ ρ) (r:ρ) (p:Prop):Prop where
  f:∀ r',y=.done r'→r'=r
  h:p
def SelK (K:List Nat) (e e':List (Nat×Value)):Prop:=Sub e e'∧e'.map (·.1)=K
theorem sk0:SelK [] e []:=⟨trivial,rfl⟩
theorem sk1 {K:List Nat} {k:Nat} {v:Value} {e':List (Nat×Value)} (h:Kf e k=some v) (r:SelK K e e'):SelK (k::K) e ((k,v)::e'):=⟨⟨h,r.1⟩,congrArg (k :: ·) r.2⟩
theorem skX {K:List Nat} {e':List (Nat×Value)} (h:SelK K e e':=by first | exact sk0 | exact sk1 rfl skX):SelK K e e':=h
theorem sub_app {e1 e2 e3:List (Nat×Value)} (h1:Sub e e1) (h2:Sub e e2) (h:App e1 e2 e3):Sub e e3:=by
  rw [← h.h]
  clear h
  induction e1 with
  | nil=>exact h2
  | cons p r ih=>exact ⟨h1.1,ih h1.2⟩
theorem sel_app {l t r o:List Hl} (h:Sel l t r) (ha:App t r o) (fr:Hl):(fl l fr).Perm (fl o fr):=by
  obtain rfl:=ha.h
  rw [fl_append];exact h.h fr
theorem lpX {p:Prop} (h:p:=by
  first
  | (repeat' first | (with_reducible apply Exists.intro) | (with_reducible apply And.intro)
     all_goals try with_reducible exact rfl
     all_goals try ((with_reducible show Kf _ _=some _);exact rfl)
     all_goals try ((with_reducible show Sub _ _);exact sbX)
     all_goals try ((with_reducible show SelK _ _ _);exact skX)
     all_goals try first | ((with_reducible show RepSl _ _ _);exact shX) | ((with_reducible show OwnS _ _ _ _);exact owX) | ((with_reducible show OwnN _ _ _ _);exact onX)
     all_goals try ((with_reducible show Sel _ _ _);exact selX)
     all_goals try ((with_reducible show App _ _ _);exact apX)
     all_goals try assumption
     all_goals try exact trivial
     all_goals fail)
  | fail):p:=h
theorem lbX {p:Prop} (h:p:=by
  first
  | (refine ⟨⟨leX,?_⟩,?_⟩
     all_goals (repeat' first | (with_reducible apply Exists.intro) | (with_reducible apply And.intro))
     all_goals try with_reducible exact rfl
     all_goals try ((with_reducible show App _ _ _);exact apX)
     all_goals try ((with_reducible show Sub _ _);exact sbX)
     all_goals try first | ((with_reducible show RepSl _ _ _);exact shX) | ((with_reducible show OwnS _ _ _ _);exact owX) | ((with_reducible show OwnN _ _ _ _);exact onX)
     all_goals try ((with_reducible show App _ _ _);exact apX)
     all_goals try ((with_reducible show Sel _ _ _);exact selX)
     all_goals try assumption
     all_goals try exact trivial
     all_goals fail)
  | fail):p:=h
section
variable {σ ρ' : Type} {m : σ → Option (Step σ ρ')} {KL : List Nat} {J : Gh → σ → List (Nat × Value) → List Hl → Prop}
def LB (J:Gh→σ→List (Nat×Value)→List Hl→Prop) (n:Fw) (fr:Hl) (g:Gh) (e':List (Nat×Value)) (rest:List Hl) (y:Step σ ρ'):Act→World→Prop:=fun a w=>∃ s',y=.next s'∧∃ g' e2 c2,Le g g'∧J g' s' e2 c2∧Fr n a (e2++e')∧St g' (c2++rest) fr w
theorem sc_iter [LH m KL J] {s0:σ} {r:ρ'} {c:Code} {p:Prop} {e1 e':List (Nat×Value)} {c1 r0:List Hl} (hr:C7 m s0=some r) (hm:p)
    (hb:∀ s y,m s=some y→Lv y r p→∀ g' e2 c2 e3 c3,Le g g'→J g' s e2 c2→e3=e2++e'→c3=c2++r0→SC P ρ n (Exit.then (LB J n fr g e' r0 y) Q) fr g' c3 e3 c)
    (h:(J g s0 e1 c1∧Sub e e1)∧SelK KL e e'∧Sel cks c1 r0:=by exact lpX):SC P ρ n Q fr g cks e (.loop c):=⟨fun a w F S=>by
  obtain ⟨⟨h1,h2⟩,h3,h4⟩:=h
  refine wp_iter (fun s a w=>∃ g' e2 c2,Le g g'∧J g' s e2 c2∧Fr n a (e2++e')∧St g' (c2++r0) fr w) hr ⟨g,e1,c1,Le.refl _,h1,F.sub (sub_app h2 h3.1 ⟨rfl⟩),St0.perm S (sel_app h4 ⟨rfl⟩ fr)⟩ ?_
  rintro s a w y ⟨g',e2,c2,l,hJ,F,S⟩ hy hf
  exact (hb s y hy ⟨hf,hm⟩ g' e2 c2 _ _ l hJ rfl rfl).h a w F S⟩
theorem se_lb {y:Step σ ρ'} {s':σ} {g0:Gh} {e' e2 e3:List (Nat×Value)} {c2 c3 r0 r1:List Hl} (hy : .next s'=y)
    (h:(Le g0 g∧J g s' e2 c2)∧App e2 e' e3∧Sub e e3∧App c2 r0 c3∧Sel cks c3 r1:=by exact lbX):SE n fr g cks e (LB J n fr g0 e' r0 y):=⟨fun a w F S=>by
  obtain ⟨⟨h1,h2⟩,h3,h4,h5,h6⟩:=h
  exact ⟨s',hy.symm,g,e2,c2,h1,h2,h3.h ▸ F.sub h4,h5.h ▸ St.selD S h6⟩⟩
end
class DH {β:Type} (m:Option β) (N:outParam Nat) (D':outParam (List Nat)) (KL:outParam (List Nat)) (Ji:outParam (Gh→List (Nat×Value)→List Hl→Prop)) (J:outParam (Gh→List (Nat×Value)→List Hl→Prop)) where
  t:True:=trivial
section
variable {β : Type} {D D' KL NS : List Nat} {pend : List (Nat × Value)} {Ji J : Gh → List (Nat × Value) → List Hl → Prop} {ops : List Oper}
def JH (P:Program) (ρ:Option Nat) (n:Fw) (ops:List Oper) (NS:List Nat) (Q:Exit→Act→World→Prop) (fr:Hl) (g:Gh) (J:Gh→List (Nat×Value)→List Hl→Prop) (e':List (Nat×Value)) (r0:List Hl) (D':List Nat):Prop :=
  ∀ g' e2 c2,Le g g'→J g' e2 c2→SD P ρ n ops NS Q fr g' (c2++r0) (e2++e') D' []
theorem sd_cut {m:Option β} {N:Nat} {r:β} {e':List (Nat×Value)} {c0 r0:List Hl} (hm:m=some r) [DH m N D' KL Ji J]
    (K:∀ g' e2 c2 e3 c3,Le g g'→J g' e2 c2→e3=e2++e'→c3=c2++r0→SD P ρ n ops NS Q fr g' c3 e3 D' [])
    (H:JH P ρ n ops NS Q fr g J e' r0 D'→SD P ρ n ops NS Q fr g cks e D pend)
    (hne:D'.all D.contains=false:=by decide +kernel) (h:(Ji g e c0∧SelK KL e e')∧Sel cks c0 r0:=by exact lpX) (hN:ops.length=N:=by exact rfl):SD P ρ n ops NS Q fr g cks e D pend:=H fun g' e2 c2 l hJ=>K g' e2 c2 _ _ l hJ rfl rfl
theorem sd_join {g0:Gh} {e' e2 e3:List (Nat×Value)} {c2 c3 r0 r1:List Hl} (HJ:JH P ρ n ops NS Q fr g0 J e' r0 D') (hD:(D.all D'.contains && D'.all D.contains)=true)
    (h:(Le g0 g∧J g e2 c2)∧App e2 e' e3∧Sub e e3∧App c2 r0 c3∧Sel cks c3 r1:=by exact lbX):SD P ρ n ops NS Q fr g cks e D []:=⟨fun a w F S=>by
  obtain ⟨⟨h1,h2⟩,h3,h4,h5,h6⟩:=h
  exact dv_join ((HJ g e2 c2 h1 h2).h a w (h3.h ▸ F.sub h4) (h5.h ▸ St.selD S h6)) hD⟩
theorem sd_fz {g0:Gh} {e':List (Nat×Value)} {r0 r1:List Hl} {α:Type} [Rep α] {l:List α} {v:Value} {c:Hl} (HJ:JH P ρ n ops NS Q fr g0 J e' r0 D') (hD:(D.all D'.contains && D'.all D.contains)=true) (hp:Pick c cks r1)
    (K:∀ g',Le g g'→RepSl g' l v→SD P ρ n ops NS Q fr g' r1 e D pend) (h:Frz g l v c:=by exact frX):SD P ρ n ops NS Q fr g cks e D pend:=⟨fun a w F S=>by
  obtain ⟨g',h1,h2,h3⟩:=frz S hp h
  exact (K g' h1 h3).h a w F h2⟩
end
theorem sc_fz {α:Type} [Rep α] {l:List α} {v:Value} {c:Hl} {r0:List Hl} {x:Code} (hp:Pick c cks r0) (K:∀ g',Le g g'→RepSl g' l v→SC P ρ n Q fr g' r0 e x) (h:Frz g l v c:=by exact frX):SC P ρ n Q fr g cks e x :=
  ⟨fun a w F S=>by
    obtain ⟨g',h1,h2,h3⟩:=frz S hp h
    exact (K g' h1 h3).h a w F h2⟩
theorem se_fz {α:Type} [Rep α] {l:List α} {v:Value} {c:Hl} {r0:List Hl} {R:Act→World→Prop} (hp:Pick c cks r0) (K:∀ g',Le g g'→RepSl g' l v→SE n fr g' r0 e R) (h:Frz g l v c:=by exact frX):SE n fr g cks e R :=
  ⟨fun a w F S=>by
    obtain ⟨g',h1,h2,h3⟩:=frz S hp h
    exact (K g' h1 h3).h a w F h2⟩
theorem exX {p:Prop} (h:p:=by
  first
  | (repeat' first | (with_reducible apply Exists.intro) | (with_reducible apply And.intro)
     all_goals try ((with_reducible show Fr _ _ _);exact F.sub sbX)
     all_goals try exact rfl
     all_goals try ((with_reducible show _=some _);assumption)
     all_goals try ((with_reducible show _=true);assumption)
     all_goals try ((with_reducible show St _ _ _ _);refine St.selD (r:=?_) S ?_)
     all_goals try first | ((with_reducible show RepSl _ _ _);exact shX) | ((with_reducible show OwnS _ _ _ _);exact owX) | ((with_reducible show OwnN _ _ _ _);exact onX)
     all_goals try ((with_reducible show Le _ _);exact leX)
     all_goals try ((with_reducible show Sel _ _ _);exact selX)
     all_goals fail)
  | fail):p:=h
theorem finX {p:Prop} (h:p:=by
  first
  | (refine ⟨_,rfl,?_⟩;(try dsimp only);first | exact exX | (apply Or.inl;exact exX) | (apply Or.inr;exact exX))
  | exact exX):p:=h
theorem fzX {p:Prop} (h:p:=by
  first
  | exact finX
  | (have S:=frz S Hn frX;obtain ⟨_,_,S,_⟩:=S;exact fzX)
  | (have S:=frz S (De Hn) frX;obtain ⟨_,_,S,_⟩:=S;exact fzX)
  | (have S:=frz S (De (De Hn)) frX;obtain ⟨_,_,S,_⟩:=S;exact fzX)
  | (have S:=frz S (De (De (De Hn))) frX;obtain ⟨_,_,S,_⟩:=S;exact fzX)
  | (have S:=frz S (De (De (De (De Hn)))) frX;obtain ⟨_,_,S,_⟩:=S;exact fzX)
  | (have S:=frz S (De (De (De (De (De Hn))))) frX;obtain ⟨_,_,S,_⟩:=S;exact fzX)
  | (have S:=frz S (De (De (De (De (De (De Hn)))))) frX;obtain ⟨_,_,S,_⟩:=S;exact fzX)):p:=h
theorem endX {p:Prop} (h:p:=by
  first
  | ((with_reducible have hm:=D7 hm);subst hm;first
    | exact fzX
    | (rename Lv (Step.done _) _ _=>L;obtain ⟨hr,hm⟩:=L;have hr:=hr _ rfl;subst hr;(try dsimp only at hm);exact endX)
    | (have hm:=hfin6 _ rfl;subst hm;have hm:=hmo6;(try dsimp only at hm);exact endX)
    | (have hm:=hfin5 _ rfl;subst hm;have hm:=hmo5;(try dsimp only at hm);exact endX)
    | (have hm:=hfin4 _ rfl;subst hm;have hm:=hmo4;(try dsimp only at hm);exact endX)
    | (have hm:=hfin3 _ rfl;subst hm;have hm:=hmo3;(try dsimp only at hm);exact endX)
    | (have hm:=hfin2 _ rfl;subst hm;have hm:=hmo2;(try dsimp only at hm);exact endX)
    | (have hm:=hfin1 _ rfl;subst hm;have hm:=hmo1;(try dsimp only at hm);exact endX)
    | fail)
  | exact fzX
  | fail):p:=h
theorem cfT {p:Prop} {b:Bool} (h:b=true) (h':b=false):p:=by subst h;cases h'
theorem cfF {p:Prop} {b:Bool} (h:b=false) (h':b=true):p:=by subst h;cases h'
theorem bk {α β:Type} {a:Option α} {f:α→Option β} {x:α} {r:β} (h:a.bind f=some r) (h0:a=some x):f x=some r:=by subst h0;exact h
theorem nit {σ ρ' β:Type} {m:σ→Option (Step σ ρ')} {s:σ} {f:ρ'→Option β} {r:β} (h:(C7 m s).bind f=some r):True:=trivial
theorem nif {α β:Type} {c:Bool} {x y:Option α} {f:α→Option β} {r:β} (h:(if c=true then x else y).bind f=some r):True:=trivial
theorem itT {α:Type} {c:Bool} {x y:Option α} {r:α} (h:(if c=true then x else y)=some r) (hc:c=true):x=some r:=by rw [Ad hc] at h;exact h
theorem itF {α:Type} {c:Bool} {x y:Option α} {r:α} (h:(if c=true then x else y)=some r) (hc:c=false):y=some r:=by rw [hc,Ac Ae] at h;exact h
theorem nnX {p:Prop} {α:Type} {x:α} (h:Option.none=some x):p:=by cases h
theorem ite_bind {α β:Type} {c:Bool} {x y:Option α} {f:α→Option β} {r:β} (h:(if c=true then x else y).bind f=some r):(c=true∧x.bind f=some r)∨(c=false∧y.bind f=some r):=by
  cases c
  · exact .inr ⟨rfl,by simpa using h⟩
  · exact .inl ⟨rfl,by simpa using h⟩
theorem bind_bind {α β γ:Type} {x:Option α} {f:α→Option β} {k:β→Option γ} {r:γ} (h:(x.bind f).bind k=some r):x.bind (fun a=>(f a).bind k)=some r:=by rw [← h,Option.bind_assoc]
theorem Ol {α β:Type} {x:α} {f:α→Option β} {r:β} (h:(some x).bind f=some r):f x=some r:=h
theorem sgX {p:Prop} (h:p:=by
  first
  | (repeat' first
     | ((with_reducible show SG _ _ _ _ _ _ _ _ _ _ _ _ _ (⟨some _,.pick _ _ _,_,_,_,Option.none⟩::_));first | exact sg_pickT rfl tX rfl (by first | exact D7 hm | exact rfl) extX | exact sg_pickF rfl fX rfl (by first | exact D7 hm | exact rfl) extX)
     | ((with_reducible show SG _ _ _ _ _ _ _ _ _ _ _ _ _ (⟨some _,_,_,_,_,Option.none⟩::_));fail_if_success (with_reducible show SG _ _ _ _ _ _ _ _ _ _ _ _ _ (⟨some _,.pick _ _ _,_,_,_,Option.none⟩::_));refine sg_ev ?_)
     | ((with_reducible show SG _ _ _ _ _ _ _ _ _ _ _ _ _ (⟨some _,_,_,_,_,some _⟩::_));first | refine sg_on rfl rfl (by first | exact rfl | assumption) ?_ | refine sg_off rfl rfl (by first | exact rfl | exact Lq (by assumption) | exact D6 (by assumption)) ?_ | refine sg_offu rfl rfl ?_)
     | ((with_reducible show SG _ _ _ _ _ _ _ _ _ _ _ _ _ (⟨some _,.call { callee:=.value _,args:=_,argTypes:=_ },_,_,_,Option.none⟩::_));first | refine sg_call 0 rfl evlX ?_ | refine sg_call 1 rfl evlX ?_)
     | ((with_reducible show SG _ _ _ _ _ _ _ _ _ _ _ _ _ (⟨some _,.call { callee:=.value _,args:=_,argTypes:=_ },_,_,_,some _⟩::_));first | refine sg_callg 0 rfl rfl (by first | exact rfl | assumption) rfl evlX ?_ | refine sg_callg 1 rfl rfl (by first | exact rfl | assumption) rfl evlX ?_)
     | ((with_reducible show SG _ _ _ _ _ _ _ _ _ _ _ _ _ (⟨some _,.slice _ _ _ _ _,_,_,_,some _⟩::_));refine sg_cutS rfl rfl (by first | exact rfl | assumption) rfl fun _ _=>?_)
     | ((with_reducible have hm:=Dd hm);obtain ⟨d,hm⟩ | ⟨d,hm⟩:=hm;all_goals try first | exact cfT d (by assumption) | exact cfF d (by assumption) | exact absurd d (by decide))
     | ((with_reducible have hm:=ite_bind hm);obtain ⟨d,hm⟩ | ⟨d,hm⟩:=hm;all_goals try first | exact cfT d (by assumption) | exact cfF d (by assumption) | exact absurd d (by decide))
     | (with_reducible have hm:=bind_bind hm)
     | (with_reducible have hm:=Ol hm)
     | (with_reducible have hm:=bk hm (by assumption))
     | (((with_reducible have hm:=Ah hm);obtain ⟨y,k,hm⟩:=hm)
        (try first
          | (have o:=Ul shX k;obtain ⟨_,o,p⟩:=o;first | obtain rfl:=o | obtain ⟨_,rfl,_⟩:=o | obtain ⟨_,_,rfl,_,_⟩:=o | obtain ⟨_,_,_,rfl,_,_,_⟩:=o | obtain ⟨_,_,_,_,rfl,_,_,_,_⟩:=o | obtain ⟨_,_,_,_,_,rfl,_,_,_,_,_⟩:=o | obtain ⟨_,_,_,_,_,_,_,rfl,_,_,_,_,_,_,_⟩:=o)
          | (have q:=Us owX k;have o:=elemPO owX k;obtain ⟨_,o,p⟩:=o;first | obtain rfl:=o | obtain ⟨_,rfl,_⟩:=o | obtain ⟨_,_,rfl,_,_⟩:=o | obtain ⟨_,_,_,rfl,_,_,_⟩:=o | obtain ⟨_,_,_,_,rfl,_,_,_,_⟩:=o | obtain ⟨_,_,_,_,_,rfl,_,_,_,_,_⟩:=o | obtain ⟨_,_,_,_,_,_,_,rfl,_,_,_,_,_,_,_⟩:=o)))
     | fail
     all_goals fail)
  | fail):p:=h
set_option maxRecDepth 20000 in
theorem go {p:Prop} (h:p:=by
  first
  | (repeat' first
     | ((with_reducible show SL _ _ _ _ _ _ _ _ _ _)
        first
        | ((with_reducible show SL _ _ _ _ _ _ _ _ _ (⟨some _,.pick _ _ _,_,_,_,Option.none⟩::_))
           (with_reducible have hm':=Ah hm);obtain ⟨x,k,hm'⟩:=hm'
           first | refine sg_go (x:=x) rfl rfl rfl ?_ ?_ | refine sg_go0 (x:=x) rfl rfl ?_ ?_
           focus (have hm:=k;clear k;exact sgX)
           have hm:=hm';clear hm')
        | ((with_reducible show SL _ _ _ _ _ _ _ _ _ (⟨some _,_,_,_,_,Option.none⟩::_));refine q_ev ?_)
        | ((with_reducible show SL _ _ _ _ _ _ _ _ _ (⟨some _,_,_,_,_,some _⟩::_))
           (with_reducible have hm':=Ah hm);obtain ⟨x,k,hm'⟩:=hm'
           first | refine sg_go (x:=x) rfl rfl rfl ?_ ?_ | refine sg_go0 (x:=x) rfl rfl ?_ ?_
           focus (have hm:=k;clear k;exact sgX)
           have hm:=hm';clear hm')
        | refine sl_nil ?_
        | refine sq_nil ?_
        | ((with_reducible show SL _ _ _ _ _ _ _ _ _ (⟨some _,.alloc _,_,_,_,Option.none⟩::_));refine q_alloc fun _=>?_)
        | ((with_reducible show SL _ _ _ _ _ _ _ _ _ (⟨some _,.box _ _,_,_,_,Option.none⟩::_));refine q_box rfl fun _=>?_)
        | ((with_reducible show SL _ _ _ _ _ _ _ _ _ (⟨Option.none,.store _ _ _,_,_,_,Option.none⟩::_));first | refine q_st rfl rfl ?_ | ((first | refine q_stE rfl rfl fun _ _ _ o _ _=>?_ | refine q_stE0 rfl rfl fun _ _ _ o _ _=>?_);first | obtain rfl:=o | obtain ⟨_,rfl,_⟩:=o | obtain ⟨_,_,rfl,_,_⟩:=o | obtain ⟨_,_,_,rfl,_,_,_⟩:=o | obtain ⟨_,_,_,_,rfl,_,_,_,_⟩:=o | obtain ⟨_,_,_,_,_,rfl,_,_,_,_,_⟩:=o | obtain ⟨_,_,_,_,_,_,_,rfl,_,_,_,_,_,_,_⟩:=o))
        | ((with_reducible show SL _ _ _ _ (.l _) _ _ _ _ (⟨some _,.call { callee:=.value _,args:=_,argTypes:=_ },_,_,_,Option.none⟩::_))
           first
           | (first
              | (refine q_call 2 rfl evlX fun K w S=>?_;apply Calls.mono;(focus exact ctX))
              | (refine q_call 0 rfl evlX fun K w S=>?_;apply Calls.mono;(focus exact ctX))
              | (refine q_call 1 rfl evlX fun K w S=>?_;apply Calls.mono;(focus exact ctX))
              rintro en w ⟨v,rfl,hR⟩;refine ⟨v,rfl,?_⟩
              (try ((with_reducible have h0:=xO hR);clear h0;obtain hR | hR:=hR))
              all_goals
                repeat (first | ((with_reducible have h0:=xE hR);clear h0;obtain ⟨_,hR⟩:=hR) | ((with_reducible have h0:=xA hR);clear h0;obtain ⟨_,hR⟩:=hR))
                subst hR
                have S:=‹St _ _ _ w›
                (try (have hs:=‹_=Sum.inl _›;subst hs;dsimp only at hm))
                (try (have hs:=‹_=Sum.inr _›;subst hs;dsimp only at hm))
                refine suA S ?_
                (try clear mkb)))
        | ((with_reducible show SL _ _ _ _ (.l _) _ _ _ _ (⟨some _,.call { callee:=.value _,args:=_,argTypes:=_ },_,_,_,Option.none⟩::_));refine q_inl rfl evlX ?_;(try clear mkb))
        | ((with_reducible show SL _ _ _ _ (.l _) _ _ _ _ (⟨some _,.convert _ _ _,_,_,_,Option.none⟩::_));refine q_s2b rfl fun _ _ _ _=>?_)
        | ((with_reducible show SL _ _ _ _ _ _ _ _ _ (⟨some _,.index _ _ _,_,_,_,Option.none⟩::_));refine q_ixA rfl rfl fun _ _=>?_)
        | ((with_reducible show SL _ _ _ _ (.q _) _ _ _ _ (⟨some _,.call { callee:=.value _,args:=_,argTypes:=_ },_,_,_,Option.none⟩::_));first | refine q_callq 0 rfl evlX ?_ | refine q_callq 1 rfl evlX ?_)
        | ((with_reducible show SL _ _ _ _ _ _ _ _ _ (⟨some _,.call { callee:=.builtin .append,args:=_,argTypes:=_ },_,_,_,Option.none⟩::_));first | refine q_appS rfl rfl fun _ _ _=>?_ | refine q_appO rfl rfl fun _ _ _=>?_)
        | ((with_reducible show SL _ _ _ _ _ _ _ _ _ (⟨some _,.slice _ _ _ _ _,_,_,_,Option.none⟩::_));first | refine q_cutS rfl fun _ _=>?_ | refine q_cutO rfl fun _ _=>?_)
        | ((with_reducible show SL _ _ _ _ _ _ _ _ _ (⟨some _,.makeSlice _ _ _,_,_,_,Option.none⟩::_));refine q_make rfl fun _ _ _=>?_)
        | ((with_reducible show SL _ _ _ _ _ _ _ _ _ (⟨some _,.buildSlice _ _ _,_,_,_,Option.none⟩::_))
           first
           | refine q_lit ptlX fun _ _ _=>?_
           | refine q_fzL ptlX fun _ _ _=>?_
           | refine Xf Hn fun _ _ _=>?_
           | refine Xf (De Hn) fun _ _ _=>?_
           | refine Xf (De (De Hn)) fun _ _ _=>?_
           | refine Xf (De (De (De Hn))) fun _ _ _=>?_)
        | (with_reducible have hm:=Ol hm)
        | (with_reducible have hm:=bk hm (by assumption))
        | ((fail_if_success ((with_reducible show SL _ _ _ _ (.l _) _ _ _ _ (⟨some _,.call { callee:=.value _,args:=_,argTypes:=_ },_,_,_,Option.none⟩::_));first | have:=HJ | have:=mkb));(fail_if_success (with_reducible have h0:=nit hm));(fail_if_success (with_reducible have h0:=nif hm));((with_reducible have hm:=Ah hm);obtain ⟨y,k,hm⟩:=hm)
           (try first
             | (have o:=Ul shX k;obtain ⟨_,o,p⟩:=o;first | obtain rfl:=o | obtain ⟨_,rfl,_⟩:=o | obtain ⟨_,_,rfl,_,_⟩:=o | obtain ⟨_,_,_,rfl,_,_,_⟩:=o | obtain ⟨_,_,_,_,rfl,_,_,_,_⟩:=o | obtain ⟨_,_,_,_,_,rfl,_,_,_,_,_⟩:=o | obtain ⟨_,_,_,_,_,_,_,rfl,_,_,_,_,_,_,_⟩:=o)
             | (have q:=Us owX k;have o:=elemPO owX k;obtain ⟨_,o,p⟩:=o;first | obtain rfl:=o | obtain ⟨_,rfl,_⟩:=o | obtain ⟨_,_,rfl,_,_⟩:=o | obtain ⟨_,_,_,rfl,_,_,_⟩:=o | obtain ⟨_,_,_,_,rfl,_,_,_,_⟩:=o | obtain ⟨_,_,_,_,_,rfl,_,_,_,_,_⟩:=o | obtain ⟨_,_,_,_,_,_,_,rfl,_,_,_,_,_,_,_⟩:=o))
           (try ((with_reducible show SL _ _ _ _ (.l _) _ _ _ _ (⟨some _,.call { callee:=.value _,args:=_,argTypes:=_ },_,_,_,Option.none⟩::_));have mkb:=True.intro)))
        | (with_reducible exact nnX hm)
        | (with_reducible have hm:=itT hm (by first | assumption | decide))
        | (with_reducible have hm:=itF hm (by first | assumption | decide))
        | ((with_reducible have hm:=D7 hm);subst hm;rename Lv (Step.done _) _ _=>L;obtain ⟨hr,hm⟩:=L;have hr:=hr _ rfl;subst hr;try dsimp only at hm)
        | ((with_reducible show SL _ _ _ _ (.l _) _ _ _ _ (⟨some _,.call _,_,_,_,Option.none⟩::_))
           first
           | refine q_fzA 0 rfl rfl fun _ _ _=>?_
           | refine q_fzA 1 rfl rfl fun _ _ _=>?_
           | refine q_fzA 2 rfl rfl fun _ _ _=>?_
           | refine q_fzA 3 rfl rfl fun _ _ _=>?_
           | refine q_fzG 0 rfl fun _ _ _=>?_
           | refine q_fzG 1 rfl fun _ _ _=>?_
           | refine q_fzG 2 rfl fun _ _ _=>?_)
        | ((with_reducible show SL _ _ _ _ (.l _) _ _ _ _ (⟨some _,.call { callee:=.value _,args:=_,argTypes:=_ },_,_,_,Option.none⟩::_));(fail_if_success (with_reducible have h0:=nit hm));(fail_if_success (with_reducible have h0:=nif hm));((with_reducible have hm:=Ah hm);obtain ⟨y,k,hm⟩:=hm)
           (try first
             | (have o:=Ul shX k;obtain ⟨_,o,p⟩:=o;first | obtain rfl:=o | obtain ⟨_,rfl,_⟩:=o | obtain ⟨_,_,rfl,_,_⟩:=o | obtain ⟨_,_,_,rfl,_,_,_⟩:=o | obtain ⟨_,_,_,_,rfl,_,_,_,_⟩:=o | obtain ⟨_,_,_,_,_,rfl,_,_,_,_,_⟩:=o | obtain ⟨_,_,_,_,_,_,_,rfl,_,_,_,_,_,_,_⟩:=o)
             | (have q:=Us owX k;have o:=elemPO owX k;obtain ⟨_,o,p⟩:=o;first | obtain rfl:=o | obtain ⟨_,rfl,_⟩:=o | obtain ⟨_,_,rfl,_,_⟩:=o | obtain ⟨_,_,_,rfl,_,_,_⟩:=o | obtain ⟨_,_,_,_,rfl,_,_,_,_⟩:=o | obtain ⟨_,_,_,_,_,rfl,_,_,_,_,_⟩:=o | obtain ⟨_,_,_,_,_,_,_,rfl,_,_,_,_,_,_,_⟩:=o)))
        | ((with_reducible show SL _ _ _ _ (.l _) _ _ _ _ (⟨some _,.call _,_,_,_,Option.none⟩::_))
           first
           | refine Xf Hn fun _ _ _=>?_
           | refine Xf (De Hn) fun _ _ _=>?_
           | refine Xf (De (De Hn)) fun _ _ _=>?_
           | refine Xf (De (De (De Hn))) fun _ _ _=>?_
           | refine Xf (De (De (De (De Hn)))) fun _ _ _=>?_)
        | ((with_reducible show SL _ _ _ _ (.l _) _ _ _ _ (⟨some _,_,_,_,_,some _⟩::_))
           first
           | refine Xf Hn fun _ _ _=>?_
           | refine Xf (De Hn) fun _ _ _=>?_
           | refine Xf (De (De Hn)) fun _ _ _=>?_
           | refine Xf (De (De (De Hn))) fun _ _ _=>?_)
        | ((with_reducible show SL _ _ _ _ (.l _) _ _ _ _ (⟨some _,.slice _ _ _ _ _,_,_,_,Option.none⟩::_))
           first
           | refine q_fzS rfl fun _ _ _=>?_
           | refine Xf Hn fun _ _ _=>?_
           | refine Xf (De Hn) fun _ _ _=>?_
           | refine Xf (De (De Hn)) fun _ _ _=>?_
           | refine Xf (De (De (De Hn))) fun _ _ _=>?_
           | refine Xf (De (De (De (De Hn)))) fun _ _ _=>?_)
        | ((with_reducible show SL _ _ _ _ (.l _) _ _ _ _ (⟨Option.none,.store _ _ _,_,_,_,Option.none⟩::_))
           first
           | refine q_fzV rfl fun _ _ _=>?_
           | refine Xf Hn fun _ _ _=>?_
           | refine Xf (De Hn) fun _ _ _=>?_
           | refine Xf (De (De Hn)) fun _ _ _=>?_
           | refine Xf (De (De (De Hn))) fun _ _ _=>?_
           | refine Xf (De (De (De (De Hn)))) fun _ _ _=>?_)
        | ((with_reducible have hm:=Dd hm);obtain ⟨d,hm⟩ | ⟨d,hm⟩:=hm;all_goals try first | exact cfT d (by assumption) | exact cfF d (by assumption) | exact absurd d (by decide)))
     | ((with_reducible show SC _ _ _ _ _ _ _ _ _)
        first
        | refine sc_seq ?_
        | refine sc_region ?_
        | refine sc_block ?_
        | refine sc_skip ?_
        | refine sc_ret ?_
        | refine sc_exit ?_
        | ((with_reducible show SC _ _ _ _ _ _ _ _ (.cond _ _ _));first | refine sc_T rfl tX ?_ | refine sc_F rfl fX ?_ | ((with_reducible have hm:=Dd hm);obtain ⟨d,hm⟩ | ⟨d,hm⟩:=hm;first | exact cfT d (by assumption) | (refine sc_T rfl d ?_;rotate_left);first | exact cfF d (by assumption) | refine sc_F rfl d ?_))
        | ((with_reducible show SC _ _ _ _ _ _ _ _ (.region _ _ true));first | refine sc_quiet' mo (by decide +kernel) ?_ | refine sd_go (NS:=[]) mo (by decide +kernel) fun _=>?_ | refine sd_goN mo (by decide +kernel) fun _=>?_)
        | ((with_reducible show SC _ _ _ _ _ _ _ _ (.cond _ _ _));(with_reducible have hm:=bk hm (by assumption)))
        | ((with_reducible show SC _ _ _ _ _ _ _ _ (.cond _ _ _));(with_reducible have hm:=Ah hm);obtain ⟨y,k,hm⟩:=hm)
        | ((with_reducible show SC _ _ _ _ _ _ _ _ (.loop _))
           (with_reducible have hm':=Ah hm);obtain ⟨y,k,hm'⟩:=hm'
           refine sc_iter k hm' ?_
           clear hm' k hm
           intro s y hm L g e2 c2 e3 c3 l hJ he hc
           repeat ((with_reducible have h0:=xE hJ);clear h0;obtain ⟨_,hJ⟩:=hJ)
           obtain ⟨he2,hc2,hJ⟩:=hJ
           repeat ((with_reducible have h0:=xA hJ);clear h0;obtain ⟨_,hJ⟩:=hJ)
           subst he2;subst hc2
           simp only [List.cons_append,A8] at he hc
           subst he;subst hc)
        | ((with_reducible show SC _ _ _ _ _ _ _ _ _)
           (with_reducible have hm:=D7 hm);subst hm;rename Lv (Step.done _) _ _=>L;obtain ⟨hr,hm⟩:=L;have hr:=hr _ rfl;subst hr;try dsimp only at hm)
        | ((with_reducible show SC _ _ _ _ _ _ _ _ (.loop _))
           first
           | refine sc_fz Hn fun _ _ _=>?_
           | refine sc_fz (De Hn) fun _ _ _=>?_
           | refine sc_fz (De (De Hn)) fun _ _ _=>?_
           | refine sc_fz (De (De (De Hn))) fun _ _ _=>?_))
     | ((with_reducible show SE _ _ _ _ _ _)
        first
        | ((with_reducible show SE _ _ _ _ _ (Exit.then _ _ .normal));first | refine se_seq ?_ | refine se_n ?_)
        | ((with_reducible show SE _ _ _ _ _ (LB _ _ _ _ _ _ _));(with_reducible have hm:=D7 hm);first | exact se_lb hm)
        | ((with_reducible show SE _ _ _ _ _ (LB _ _ _ _ _ _ _));(with_reducible have hm:=Ol hm))
        | ((with_reducible show SE _ _ _ _ _ (LB _ _ _ _ _ _ _));(with_reducible have hm:=bk hm (by assumption)))
        | ((with_reducible show SE _ _ _ _ _ (LB _ _ _ _ _ _ _));(with_reducible have hm:=Ah hm);obtain ⟨y,k,hm⟩:=hm)
        | ((with_reducible show SE _ _ _ _ _ (LB _ _ _ _ _ _ _));(with_reducible have h0:=D7 hm)
           first
           | refine se_fz Hn fun _ _ _=>?_
           | refine se_fz (De Hn) fun _ _ _=>?_
           | refine se_fz (De (De Hn)) fun _ _ _=>?_
           | refine se_fz (De (De (De Hn))) fun _ _ _=>?_)
        | ((with_reducible show SE _ _ _ _ _ (Exit.then _ _ .ret));refine se_r ?_)
        | ((with_reducible show SE _ _ _ _ _ (Exit.then _ _ (.exit _)));refine se_e ?_)
        | ((with_reducible show SE _ _ _ _ _ (Exit.inBlock _ _ .normal));refine se_bn ?_)
        | ((with_reducible show SE _ _ _ _ _ (Exit.inBlock _ _ .ret));refine se_br ?_)
        | ((with_reducible show SE _ _ _ _ _ (Exit.inBlock _ _ (.exit _)));first | refine se_bx ?_ | refine se_be rfl ?_)
        | ((with_reducible show SE _ _ _ _ _ (DQ _ _ _ _ _ _ _ .normal));refine se_dq ?_)
        | ((with_reducible show SE _ _ _ _ _ (bodyPost _ _ (IR _ _ _ _ _ _ _ _) .ret));refine se_ir rfl rxX ?_)
        | ((with_reducible show SE _ _ _ _ _ (bodyPost _ _ (IR _ _ _ _ _ _ _ _) .normal));refine se_irn rfl rxX ?_)
        | ((with_reducible show SE _ _ _ _ _ (bodyPost _ _ _ _));(with_reducible have hm:=Ol hm))
        | ((with_reducible show SE _ _ _ _ _ (bodyPost _ _ _ _));(with_reducible have hm:=bk hm (by assumption)))
        | ((with_reducible show SE _ _ _ _ _ (bodyPost _ _ _ .ret));refine se_post rfl rxX ?_;intro w S;exact endX)
        | ((with_reducible show SE _ _ _ _ _ (bodyPost _ _ _ .normal));refine se_postn rfl rxX ?_;intro w S;exact endX)
        | (refine ⟨fun a w F S=>?_⟩;exact endX)
        | (with_reducible exact nnX hm)
        | ((with_reducible have hm:=Dd hm);obtain ⟨d,hm⟩ | ⟨d,hm⟩:=hm;all_goals try first | exact cfT d (by assumption) | exact cfF d (by assumption) | exact absurd d (by decide)))
     | ((with_reducible show SD _ _ _ _ _ _ _ _ _ _ _ _)
        first
        | exact sd_join HJ (by decide +kernel)
        | refine sd_fz HJ (by decide +kernel) Hn fun _ _ _=>?_
        | refine sd_fz HJ (by decide +kernel) (De Hn) fun _ _ _=>?_
        | refine sd_fz HJ (by decide +kernel) (De (De Hn)) fun _ _ _=>?_
        | refine sd_fz HJ (by decide +kernel) (De (De (De Hn))) fun _ _ _=>?_
        | (refine sd_at (q:=isQ) (k:=0) rfl rfl ?_;first | ((with_reducible show SA _ _ _ _ _ _ _ _ _ _ _ _ _ ⟨_,_,_,_,_,Option.none⟩);first | refine sa_et ?_ | refine sa_ev ?_) | ((with_reducible show SA _ _ _ _ _ _ _ _ _ _ _ _ _ ⟨_,_,_,_,_,some _⟩);first | refine sa_skip rfl rfl (by first | exact rfl | exact Lq (by assumption) | exact D6 (by assumption)) ?_ | refine sa_skipu rfl rfl ?_ | refine sa_etg rfl rfl (by first | exact rfl | assumption) ?_ | refine sa_evg rfl rfl (by first | exact rfl | assumption) ?_))
        | (refine sd_at (q:=isQ) (k:=1) rfl rfl ?_;first | ((with_reducible show SA _ _ _ _ _ _ _ _ _ _ _ _ _ ⟨_,_,_,_,_,Option.none⟩);first | refine sa_et ?_ | refine sa_ev ?_) | ((with_reducible show SA _ _ _ _ _ _ _ _ _ _ _ _ _ ⟨_,_,_,_,_,some _⟩);first | refine sa_skip rfl rfl (by first | exact rfl | exact Lq (by assumption) | exact D6 (by assumption)) ?_ | refine sa_skipu rfl rfl ?_ | refine sa_etg rfl rfl (by first | exact rfl | assumption) ?_ | refine sa_evg rfl rfl (by first | exact rfl | assumption) ?_))
        | (refine sd_at (q:=isQ) (k:=2) rfl rfl ?_;first | ((with_reducible show SA _ _ _ _ _ _ _ _ _ _ _ _ _ ⟨_,_,_,_,_,Option.none⟩);first | refine sa_et ?_ | refine sa_ev ?_) | ((with_reducible show SA _ _ _ _ _ _ _ _ _ _ _ _ _ ⟨_,_,_,_,_,some _⟩);first | refine sa_skip rfl rfl (by first | exact rfl | exact Lq (by assumption) | exact D6 (by assumption)) ?_ | refine sa_skipu rfl rfl ?_ | refine sa_etg rfl rfl (by first | exact rfl | assumption) ?_ | refine sa_evg rfl rfl (by first | exact rfl | assumption) ?_))
        | (refine sd_at (q:=fun _=>true) (k:=0) rfl rfl ?_;refine sa_skip rfl rfl (by first | exact rfl | exact Lq (by assumption) | exact D6 (by assumption)) ?_)
        | (refine sd_at (q:=fun _=>true) (k:=1) rfl rfl ?_;refine sa_skip rfl rfl (by first | exact rfl | exact Lq (by assumption) | exact D6 (by assumption)) ?_)
        | (refine sd_hasq (k:=0) rfl ?_
           first
           | (with_reducible have hm:=Ol hm)
           | (with_reducible have hm:=bk hm (by assumption))
           | ((fail_if_success (with_reducible have h0:=nit hm));(fail_if_success (with_reducible have h0:=nif hm));((with_reducible have hm:=Ah hm);obtain ⟨y,k,hm⟩:=hm)
              (try first
                | (have o:=Ul shX k;obtain ⟨_,o,p⟩:=o;first | obtain rfl:=o | obtain ⟨_,rfl,_⟩:=o | obtain ⟨_,_,rfl,_,_⟩:=o | obtain ⟨_,_,_,rfl,_,_,_⟩:=o | obtain ⟨_,_,_,_,rfl,_,_,_,_⟩:=o | obtain ⟨_,_,_,_,_,rfl,_,_,_,_,_⟩:=o | obtain ⟨_,_,_,_,_,_,_,rfl,_,_,_,_,_,_,_⟩:=o)
                | (have q:=Us owX k;have o:=elemPO owX k;obtain ⟨_,o,p⟩:=o;first | obtain rfl:=o | obtain ⟨_,rfl,_⟩:=o | obtain ⟨_,_,rfl,_,_⟩:=o | obtain ⟨_,_,_,rfl,_,_,_⟩:=o | obtain ⟨_,_,_,_,rfl,_,_,_,_⟩:=o | obtain ⟨_,_,_,_,_,rfl,_,_,_,_,_⟩:=o | obtain ⟨_,_,_,_,_,_,_,rfl,_,_,_,_,_,_,_⟩:=o)))
           | ((with_reducible have hm:=Dd hm);obtain ⟨d,hm⟩ | ⟨d,hm⟩:=hm;all_goals try first | exact cfT d (by assumption) | exact cfF d (by assumption) | exact absurd d (by decide)))
        | (refine sd_hasq (k:=0) rfl ?_;(with_reducible have hm:=D7 hm);subst hm;rename Lv (Step.done _) _ _=>L;obtain ⟨hr,hm⟩:=L;have hr:=hr _ rfl;subst hr;try dsimp only at hm)
        | (with_reducible exact nnX hm)
        | refine sd_fin rfl ?_
        | ((fail_if_success (have:=HJ))
           first
           | refine sd_cut hm ?_ ?_
           | ((first | (with_reducible have hm:=Ol hm) | (with_reducible have hm:=bk hm (by assumption)) | ((fail_if_success (with_reducible have h0:=nit hm));(fail_if_success (with_reducible have h0:=nif hm));(with_reducible have hm:=Ah hm);obtain ⟨y,k,hm⟩:=hm))
              first
              | refine sd_cut hm ?_ ?_
              | ((first | (with_reducible have hm:=Ol hm) | (with_reducible have hm:=bk hm (by assumption)) | ((fail_if_success (with_reducible have h0:=nit hm));(fail_if_success (with_reducible have h0:=nif hm));(with_reducible have hm:=Ah hm);obtain ⟨y,k,hm⟩:=hm))
                 first
                 | refine sd_cut hm ?_ ?_
                 | ((first | (with_reducible have hm:=Ol hm) | (with_reducible have hm:=bk hm (by assumption)) | ((fail_if_success (with_reducible have h0:=nit hm));(fail_if_success (with_reducible have h0:=nif hm));(with_reducible have hm:=Ah hm);obtain ⟨y,k,hm⟩:=hm))
                    first
                    | refine sd_cut hm ?_ ?_
                    | ((first | (with_reducible have hm:=Ol hm) | (with_reducible have hm:=bk hm (by assumption)) | ((fail_if_success (with_reducible have h0:=nit hm));(fail_if_success (with_reducible have h0:=nif hm));(with_reducible have hm:=Ah hm);obtain ⟨y,k,hm⟩:=hm))
                       first
                       | refine sd_cut hm ?_ ?_
                       | ((first | (with_reducible have hm:=Ol hm) | (with_reducible have hm:=bk hm (by assumption)) | ((fail_if_success (with_reducible have h0:=nit hm));(fail_if_success (with_reducible have h0:=nif hm));(with_reducible have hm:=Ah hm);obtain ⟨y,k,hm⟩:=hm))
                          first
                          | refine sd_cut hm ?_ ?_
                          | ((first | (with_reducible have hm:=Ol hm) | (with_reducible have hm:=bk hm (by assumption)) | ((fail_if_success (with_reducible have h0:=nit hm));(fail_if_success (with_reducible have h0:=nif hm));(with_reducible have hm:=Ah hm);obtain ⟨y,k,hm⟩:=hm))
                             first
                             | refine sd_cut hm ?_ ?_
                             | ((first | (with_reducible have hm:=Ol hm) | (with_reducible have hm:=bk hm (by assumption)) | ((fail_if_success (with_reducible have h0:=nit hm));(fail_if_success (with_reducible have h0:=nif hm));(with_reducible have hm:=Ah hm);obtain ⟨y,k,hm⟩:=hm))
                                first
                                | refine sd_cut hm ?_ ?_)))))))
           focus
             intro g e2 c2 e3 c3 l hJ he hc
             (with_reducible change _ at hJ)
             repeat ((with_reducible have h0:=xE hJ);clear h0;obtain ⟨_,hJ⟩:=hJ)
             obtain ⟨he2,hc2,hJ⟩:=hJ
             repeat ((with_reducible have h0:=xA hJ);clear h0;obtain ⟨_,hJ⟩:=hJ)
             subst he2;subst hc2
             simp only [List.cons_append,A8] at he hc
             subst he;subst hc
           rotate_left
           intro HJ)
        | refine sd_nz rfl ?_)
     | ((with_reducible show FkX _ _ _ _ _ _ _ _ _ _ _ _ _);first | exact fk_nil | refine fk_cons rfl pdsX ?_ ?_)
     | fail
     all_goals fail)
  | fail):p:=h
theorem goC {a:Act} {w:World} {c:Code} (F:Fr n a e) (S:St g cks fr w) (h:SC P ρ n Q fr g cks e c:=by exact go):c.wpIn (RW ρ) 0 P Q a w:=sxC F S h
end Go.Dc
