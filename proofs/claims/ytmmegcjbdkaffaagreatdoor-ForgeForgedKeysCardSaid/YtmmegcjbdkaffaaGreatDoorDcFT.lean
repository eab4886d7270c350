import Derived.Test.YtmmegcjbdkaffaaGreatDoorDcFS
set_option linter.unusedSimpArgs false
set_option linter.unusedVariables false
set_option maxRecDepth 4000
namespace Go.Dc
open Go
theorem mul_step (o x q u v b:Int):(o+b * x - 2305843009213693951 * v)+(2 * x - 2305843009213693951 * u) * q=(o+x * (2 * q+b))+2305843009213693951 * (-(v+u * q)):=by
  simp only [Int.sub_mul,Int.mul_add,Int.add_mul,Int.mul_neg,Int.neg_add,Int.mul_assoc];have e1:x * (2 * q)=2 * (x * q):=by rw [Int.mul_left_comm]
  have e2:x * b=b * x:=Int.mul_comm _ _;rw [e1,e2];omega
theorem mul_iter:∀ (n:Nat) (o x y:Int),y.toNat=n→Dig o→Dig x→0≤y→y≤9223372036854775807 →
    Dl (fun s:Int×Int×Int=>C9.l1 s.1 s.2.1 s.2.2) (o,x,y)=some ((o+x * y) % 2305843009213693951):=by
  intro n
  induction n using Nat.strongRecOn with
  | _ n ih =>
    intro o x y hn ho hx h0 h1;obtain ⟨p1,p2⟩:=ho;obtain ⟨q1,q2⟩:=hx;by_cases hy:y > 0
    · have j2:∀ o',C9.j2 x y o'=some (.next (o',(2 * x) % 2305843009213693951,y / 2)):=by
        intro o';unfold C9.j2;rw [Bz (by omega) (by omega),Option.bind_some,rem_nn (by omega) (by decide),Option.bind_some,shr1,Option.bind_some]
      have ex:(2 * x) % 2305843009213693951=2 * x - 2305843009213693951 * (2 * x / 2305843009213693951):=Int.emod_def _ _;by_cases hc:y % 2=1
      · have e2:C9.l1 o x y=some (.next ((o+x) % 2305843009213693951,(2 * x) % 2305843009213693951,y / 2)):=by
          unfold C9.l1;rw [Av,if_pos hy,Av,and1 h0 h1,if_pos hc,Bz (by omega) (by omega),Option.bind_some,rem_nn (by omega) (by decide),Option.bind_some,j2]
        rw [B8 (m:=fun s:Int×Int×Int=>C9.l1 s.1 s.2.1 s.2.2) e2,ih (y / 2).toNat (by omega) _ _ _ rfl Vi Vi (by omega) (by omega)]
        have eo:(o+x) % 2305843009213693951=o+1 * x - 2305843009213693951 * ((o+x) / 2305843009213693951):=by rw [Int.one_mul];exact Int.emod_def _ _
        rw [eo,ex,mul_step,Int.add_mul_emod_self_left,show 2 * (y / 2)+1=y by omega]
      · have e2:C9.l1 o x y=some (.next (o,(2 * x) % 2305843009213693951,y / 2)):=by
          unfold C9.l1;rw [Av,if_pos hy,Av,and1 h0 h1,if_neg hc,j2]
        rw [B8 (m:=fun s:Int×Int×Int=>C9.l1 s.1 s.2.1 s.2.2) e2,ih (y / 2).toNat (by omega) _ _ _ rfl ⟨p1,p2⟩ Vi (by omega) (by omega)]
        have eo:o=o+0 * x - 2305843009213693951 * 0:=by omega
        have:=mul_step o x (y / 2) (2 * x / 2305843009213693951) 0 0;rw [← eo] at this;rw [ex,this,Int.add_mul_emod_self_left,show 2 * (y / 2)+0=y by omega]
    · have hy0:y=0:=by omega
      subst hy0;have e2:C9.l1 o x 0=some (.done o):=by unfold C9.l1;rw [Av,if_neg (by decide)]
      rw [Bx (m:=fun s:Int×Int×Int=>C9.l1 s.1 s.2.1 s.2.2) e2,Int.mul_zero,Int.add_zero,Int.emod_eq_of_lt p1 p2]
theorem mul_x {a b:Int} (ha:Dig a) (h0:0≤b) (h1:b≤9223372036854775807):C9 a b=some (a * b % 2305843009213693951):=by
  unfold C9;rw [mul_iter b.toNat 0 a b rfl ⟨by decide,by decide⟩ ha h0 h1,Option.bind_some,Int.zero_add];rfl
theorem sg_x {key:Int} (hk:Gz key) {d:List UInt8} (hd:d.length≤4096):∃ c,∀ key,Gz key→sg key d=(key * 1000003+c) % 2305843009213693951:=by
  obtain ⟨_,d2,_⟩:=dg_ok hd;refine ⟨(dg d * 31 % 2305843009213693951+7) % 2305843009213693951,fun key hk=>?_⟩;obtain ⟨k1,k2⟩:=hk;have hdk:Dig key:=Gg (by omega) (by omega)
  have e:=(pr_ok hdk d2).2.1;unfold Lq at e;unfold L9 at e;simp only at e;rw [mul_x d2 (by decide) (by decide),Option.bind_some,Bz (by omega) (by omega),Option.bind_some,rem_nn (by omega) (by decide),Option.bind_some,Option.bind_some] at e
  rw [mul_x hdk (by decide) (by decide),Option.bind_some,Bz (by omega) (by omega),Option.bind_some,rem_nn (by omega) (by decide),Option.bind_some,Option.bind_some] at e
  unfold sg;rw [← Option.some.inj e,Int.emod_eq_of_lt (a:=key * 1000003) (by omega) (by omega)]
theorem sg_ne {k1 k2:Int} (h1:Gz k1) (h2:Gz k2) (hne:k2≠k1) {d:List UInt8} (hd:d.length≤4096) {j:Int} (j0:0≤j) (j1:j≤100):sg k1 d≠(sg k2 d+j) % 2305843009213693951:=by
  obtain ⟨c,hc⟩:=sg_x h1 hd;rw [hc k1 h1,hc k2 h2];obtain ⟨a1,a2⟩:=h1;obtain ⟨b1,b2⟩:=h2;intro e;have q1:=Int.emod_def (k1 * 1000003+c) 2305843009213693951;have q2:=Int.emod_def (k2 * 1000003+c) 2305843009213693951;have q3:=Int.emod_def ((k2 * 1000003+c) % 2305843009213693951+j) 2305843009213693951;generalize (k1 * 1000003+c) / 2305843009213693951=g at q1;generalize (k2 * 1000003+c) / 2305843009213693951=h at q2;generalize ((k2 * 1000003+c) % 2305843009213693951+j) / 2305843009213693951=i at q3
  have ht:2305843009213693951 * (g - h - i)=(k1 - k2) * 1000003 - j:=by
    rw [q1,q3,q2] at e;omega
  generalize g - h - i=t at ht;have h0:t=0:=by omega
  subst h0;omega
def Forged (keys:List Int) (n:Nat) (m:Message_forge):Prop:=∃ k' j:Int,Gz k'∧0≤j∧j≤n∧(∀ key,at? keys m.user=some key→k'≠key)∧m.signature=(sg k' (md m)+j) % 2305843009213693951
structure FInv (keys:List Int) (n:Nat) (s:State_forge):Prop where
  vs:s.versions=[⟨[]⟩]
  lg:s.log=[]
  fg:∀ m∈s.flight,Forged keys n m
theorem Forged.up {keys:List Int} {n:Nat} {m:Message_forge} (h:Forged keys n m):Forged keys (n+1) m:=by
  obtain ⟨k',j,h1,h2,h3,h4,h5⟩:=h;exact ⟨k',j,h1,h2,by omega,h4,h5⟩
theorem FInv.up {keys:List Int} {n:Nat} {s:State_forge} (h:FInv keys n s):FInv keys (n+1) s:=⟨h.vs,h.lg,fun m hm=>(h.fg m hm).up⟩
theorem FInv.drp {keys:List Int} {n:Nat} {s:State_forge} (h:FInv keys n s) (k:Nat):FInv keys n (drp s k):=⟨h.vs,h.lg,fun m hm=>by
  rcases List.mem_append.1 hm with hm | hm
  · exact h.fg m (List.mem_of_mem_take hm)
  · exact h.fg m (List.mem_of_mem_drop hm)⟩
end Go.Dc
