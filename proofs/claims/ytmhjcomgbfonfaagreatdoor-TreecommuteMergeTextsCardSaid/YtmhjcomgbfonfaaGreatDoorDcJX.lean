import Derived.Test.YtmhjcomgbfonfaaGreatDoorDcJ0
set_option linter.unusedSimpArgs false
set_option linter.unusedVariables false
set_option maxRecDepth 4000
namespace Go.Dc
open Go
theorem followed_f:Dw=some true:=by
  have ha:=chF_ok.1 exR_ok;have hb:=chF_ok.1 exE_ok;have hc:OkCh (edF ⟨#[98]⟩ ⟨[⟨0,[],[⟨#[120]⟩]⟩]⟩):=chF_ok.1 (by decide +kernel)
  have hi:indB exR exE=false:=by decide +kernel
  have h:B5 exR exE=some (edF ⟨#[98]⟩ ⟨[⟨0,[],[⟨#[120]⟩]⟩]⟩,exR,true,⟨0,0⟩):=by
    unfold B5
    have e0:B5.l1 exR exE 0=some (Step.next 1):=by
      unfold B5.l1;rw [if_pos (by simp),show at? [exR,exE] 0=some exR from rfl,Option.bind_some,secondPatch1_f,Option.bind_some,exR_ok,if_neg (by decide)];rfl
    have e1:B5.l1 exR exE 1=some (Step.next 2):=by
      unfold B5.l1;rw [if_pos (by simp),show at? [exR,exE] 1=some exE from rfl,Option.bind_some,secondPatch1_f,Option.bind_some,exE_ok,if_neg (by decide)];rfl
    have e2:B5.l1 exR exE 2=some (Step.done (Sum.inr ())):=by
      unfold B5.l1;rw [if_neg (by simp)]
    rw [Cd e0,Cd e1,Br e2,Option.bind_some];simp only;unfold B5.j1;have la:=ha.len;have lb:=hb.len;rw [copyChange_f (by omega) ha.sm,Option.bind_some,copyChange_f (by omega) hb.sm,Option.bind_some,independent_f ha.size hb.size,Option.bind_some,hi,if_neg Bool.false_ne_true,and3K,Bg,if_neg (by decide),and3K,Bg,if_pos ⟨rfl,rfl,rfl⟩,edit_f,Option.bind_some]
  have r2:=refl_ok ha;have r1:Dt (edF ⟨#[98]⟩ ⟨[⟨0,[],[⟨#[120]⟩]⟩]⟩) ⟨4,⟨#[98]⟩,ByteArray.empty,[],⟨[⟨0,[],[⟨#[120]⟩]⟩]⟩⟩=some true:=refl_ok hc;unfold Dw;rw [h,Option.bind_some];simp only;rw [r1,r2];rfl
end Go.Dc
