import Derived.Test.YtmhjcomgbfonfaaGreatDoorDcJK
set_option linter.unusedSimpArgs false
set_option linter.unusedVariables false
namespace Go.Dc
open Go
def prun:List Step_changeforgeref1→Cst→Cst
  | [],s=>s
  | t::r,s=>prun r (if t.Kind=0 then Hs s else if t.Kind=1 then Ke t.Text s else Kn t.Text s)
theorem Nn:∀ (a b:List ByteArray) (s:Cst),prun (Ln a b) s=scr a b s
  | [],[],s=>by simp [Ln,scr,prun]
  | [],y::b,s=>by rw [Ln,scr,prun,Nn [] b];simp
  | x::a,[],s=>by rw [Ln,scr,prun,Nn a []];simp
  | x::a,y::b,s=>by
    rw [Ln,scr];split
    · rw [prun,Nn a b];simp
    · split
      · rw [prun,Nn a (y::b)];simp
      · rw [prun,Nn (x::a) b];simp
 termination_by a b=>a.length+b.length
theorem O6:∀ (a b:List ByteArray),(Ln a b).length≤a.length+b.length
  | [],[]=>by simp [Ln]
  | [],y::b=>by have:=O6 [] b;rw [Ln];simp at this ⊢;omega
  | x::a,[]=>by have:=O6 a [];rw [Ln];simp at this ⊢;omega
  | x::a,y::b=>by
    rw [Ln];split
    · have:=O6 a b;simp;omega
    · split
      · have:=O6 a (y::b);simp at this ⊢;omega
      · have:=O6 (x::a) b;simp at this ⊢;omega
 termination_by a b=>a.length+b.length
theorem patchOf_loop (l:List Step_changeforgeref1) (hl:l.length≤1000):∀ (rest:List Step_changeforgeref1) (k:Nat) (s:Cst),l.drop k=rest→k≤l.length→CInv s k →
    Dm (fun s=>Bh.l1 l s.1 s.2.1 s.2.2.1 s.2.2.2) ((k:Int),s.2.2,s.2.1,s.1)=some (prun rest s).1:=by
  intro rest
  induction rest with
  | nil =>
    intro k s hk _ _;have:=Er hk;refine B1 ?_;show Bh.l1 l _ _ _ _=_;unfold Bh.l1;rw [decide_eq_false (by omega),if_neg Bool.false_ne_true];rfl
  | cons t r ih =>
    intro k s hk hkl hs;obtain ⟨hlt,hx,hr⟩:=E0 hk;have hat0:=hs.at0;have hat1:=hs.at1;have hlen:=hs.len
    have j2e:∀ (o:Bool) (p:Int) (h:List Hunk),Bh.j2 (k:Int) o p h=some (Step.next (((k+1:Nat):Int),o,p,h)):=by
      intro o p h;unfold Bh.j2;rw [Ck (by omega) (by omega),Option.bind_some];rfl
    rw [prun];by_cases h0:t.Kind=0
    · rw [if_pos h0]
      have hst:Bh.l1 l (k:Int) s.2.2 s.2.1 s.1=some (Step.next (((k+1:Nat):Int),(Hs s).2.2,(Hs s).2.1,(Hs s).1)):=by
        unfold Bh.l1;rw [decide_eq_true (by omega),if_pos rfl,Ci hlt,Option.bind_some,hx,decide_eq_true h0,if_pos rfl,Ck (by omega) (by omega),Option.bind_some,j2e]
        rfl
      rw [B8 (s':=(((k+1:Nat):Int),(Hs s).2.2,(Hs s).2.1,(Hs s).1)) hst];exact ih (k+1) (Hs s) hr hlt hs.keep
    · rw [if_neg h0];obtain ⟨q,hq⟩:=Ql s hs.open_;have hol:=O2 s
      have ez:((E6 s).length:Int) - 1=(((E6 s).length - 1:Nat):Int):=by
        have:=List.length_pos_iff.2 (cOpen_ne s hs.open_);omega
      have hqm:q.Old.length≤k∧q.New.length≤k:=by
        rcases Mp (List.mem_of_getLast? hq) with hq | ⟨h1,h2⟩
        · exact hs.each q hq
        · simp [h1,h2]
      have j3e:Bh.j3 l (k:Int) s.2.1 true (E6 s)=some (Step.next (((k+1:Nat):Int),true,(if t.Kind=1 then Ke t.Text s else Kn t.Text s).2.1,(if t.Kind=1 then Ke t.Text s else Kn t.Text s).1)):=by
        unfold Bh.j3;by_cases h1:t.Kind=1
        · obtain ⟨g1,g2,g3⟩:=Ob hq fun h=>{ h with Old:=h.Old++[t.Text] };rw [if_pos h1,Ck (by omega) (by omega),Option.bind_some,ez,Ci g1,Option.bind_some,Ci hlt,Option.bind_some,hx,decide_eq_true h1,if_pos rfl,Option.bind_some,g2,G0 (by simp only [List.length_singleton];omega),Option.bind_some,Ck (by omega) (by omega),Option.bind_some,Option.bind_some,j2e,Int.toNat_natCast]
          have:(E6 s).set ((E6 s).length - 1) ({ At:=q.At,Old:=q.Old++[t.Text],New:=q.New }:Hunk)=(Ke t.Text s).1:=g3;rw [this];rfl
        · obtain ⟨g1,g2,g3⟩:=Ob hq fun h=>{ h with New:=h.New++[t.Text] };rw [if_neg h1,Ck (by omega) (by omega),Option.bind_some,ez,Ci g1,Option.bind_some,Ci hlt,Option.bind_some,hx,decide_eq_false h1,if_neg Bool.false_ne_true,Option.bind_some,g2,G0 (by simp only [List.length_singleton];omega),Option.bind_some,Option.bind_some,j2e,Int.toNat_natCast]
          have:(E6 s).set ((E6 s).length - 1) ({ At:=q.At,Old:=q.Old,New:=q.New++[t.Text] }:Hunk)=(Kn t.Text s).1:=g3;rw [this];rfl
      have ho:(if t.Kind=1 then Ke t.Text s else Kn t.Text s).2.2=true:=by split <;> rfl
      have hst:Bh.l1 l (k:Int) s.2.2 s.2.1 s.1=some (Step.next (((k+1:Nat):Int),(if t.Kind=1 then Ke t.Text s else Kn t.Text s).2.2,(if t.Kind=1 then Ke t.Text s else Kn t.Text s).2.1,(if t.Kind=1 then Ke t.Text s else Kn t.Text s).1)):=by
        unfold Bh.l1;rw [decide_eq_true (by omega),if_pos rfl,Ci hlt,Option.bind_some,hx,decide_eq_false h0,if_neg Bool.false_ne_true,ho]
        cases hb:s.2.2 with
        | true =>
          have:E6 s=s.1:=by unfold E6;rw [hb,if_pos rfl]
          rw [this] at j3e;rw [if_neg (by decide)];exact j3e
        | false =>
          have:E6 s=s.1++[⟨s.2.1,[],[]⟩]:=by unfold E6;rw [hb,if_neg (by decide)]
          rw [if_pos (by decide),G0 (by simp only [List.length_singleton];omega),Option.bind_some,← this];exact j3e
      rw [B8 (s':=(((k+1:Nat):Int),(if t.Kind=1 then Ke t.Text s else Kn t.Text s).2.2,(if t.Kind=1 then Ke t.Text s else Kn t.Text s).2.1,(if t.Kind=1 then Ke t.Text s else Kn t.Text s).1)) hst]
      exact ih (k+1) _ hr hlt (by split;exact hs.del _;exact hs.ins _)
theorem rscript_f {a b:List ByteArray} (ha:a.length≤400) (hb:b.length≤400):Ga a b=some ⟨Lh a b⟩:=by
  have h1:(a.length+1) * (b.length+1)≤401 * 401:=Nat.mul_le_mul (by omega) (by omega)
  have h2:=O6 a b;unfold Ga Bh;rw [alignR_eq (by omega),Option.bind_some]
  have:=patchOf_loop (Ln a b) (by omega) (Ln a b) 0 ([],0,false) rfl (Nat.zero_le _) ⟨by simp,by simp,by simp,by simp,by simp⟩
  simp only [show ((0:Nat):Int)=0 from rfl] at this;rw [this,Option.bind_some,Nn];rfl
end Go.Dc
