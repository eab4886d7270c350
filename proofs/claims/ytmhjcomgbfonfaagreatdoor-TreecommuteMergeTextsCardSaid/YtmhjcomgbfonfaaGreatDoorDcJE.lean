import Derived.Test.YtmhjcomgbfonfaaGreatDoorDcJD
import Derived.Test.YtmhjcomgbfonfaaGreatDoorDcJX
set_option linter.unusedSimpArgs false
set_option linter.unusedVariables false
set_option maxRecDepth 4000
noncomputable section
namespace Go.Dc
open Go
section
variable (B L R : List File)
def tmK:List ByteArray:=ksort (Dz B++Dz L++Dz R)
def Mz:List File:=(tmK B L R).filterMap (outO B L R)
def Mo:List File:=(tmK B L R).filterMap (N2 B L R)
def tmFst (left right:TreePatch):List Arr2_Int:=(tmK B L R).filterMap (fstO B L R left right)
def tmOwn:List File:=ownF R (Mz B L R)
def tmFin:List File:=(Mo B L R).foldl (Lc (tmOwn B L R)) (Mz B L R)
def tmSec (left right:TreePatch):List Arr2_Int:=(Mo B L R).filterMap (secO left right (tmOwn B L R))
end
theorem mem_K {B L R:List File} {p:ByteArray}:p∈tmK B L R↔Gy B p=true∨Gy L p=true∨Gy R p=true:=by
  unfold tmK;rw [ksort_mem,List.mem_append,List.mem_append,pathsL_mem,pathsL_mem,pathsL_mem];exact or_assoc
theorem not_K {B L R:List File} (hB:H2 B) (hL:H2 L) (hR:H2 R) {p:ByteArray} (h:p ∉ tmK B L R):vF B L R p=(Option.none,true):=by
  rw [mem_K,not_or,not_or] at h;have e1:=(lk_none hB).2 (by simpa using h.1)
  have e2:=(lk_none hL).2 (by simpa using h.2.1)
  have e3:=(lk_none hR).2 (by simpa using h.2.2)
  unfold vF mgO;rw [e1,e2,e3];simp
theorem mem_out {B L R:List File} (hB:H2 B) (hL:H2 L) (hR:H2 R) {f:File}:f∈Mz B L R↔(vF B L R f.Path).1=some f.Lines∧lk L f.Path≠Option.none:=by
  unfold Mz;rw [List.mem_filterMap];constructor
  · rintro ⟨p,_,h⟩;have hp:=outO_path B L R p f h;subst hp;unfold outO at h;split at h
    · rename_i v w h1 h2
      have e:=congrArg File.Lines (Option.some.inj h);simp only at e;exact ⟨by rw [h1,e],by rw [h2];simp⟩
    · cases h
  · rintro ⟨h1,h2⟩;refine ⟨f.Path,?_,?_⟩
    · by_cases hk:f.Path∈tmK B L R
      · exact hk
      · rw [not_K hB hL hR hk] at h1;cases h1
    · unfold outO;cases h3:lk L f.Path with
      | none=>exact absurd h3 h2
      | some w=>rw [h1]
theorem mem_late {B L R:List File} (hB:H2 B) (hL:H2 L) (hR:H2 R) {f:File}:f∈Mo B L R↔(vF B L R f.Path).1=some f.Lines∧lk L f.Path=Option.none:=by
  unfold Mo;rw [List.mem_filterMap];constructor
  · rintro ⟨p,_,h⟩;have hp:=O9 B L R p f h;subst hp;unfold N2 at h;split at h
    · rename_i v h1 h2
      have e:=congrArg File.Lines (Option.some.inj h);simp only at e;exact ⟨by rw [h1,e],h2⟩
    · cases h
  · rintro ⟨h1,h2⟩;refine ⟨f.Path,?_,?_⟩
    · by_cases hk:f.Path∈tmK B L R
      · exact hk
      · rw [not_K hB hL hR hk] at h1;cases h1
    · unfold N2;rw [h1,h2]
theorem K_len {B L R:List File} (hB:TrOk B) (hL:TrOk L) (hR:TrOk R):(tmK B L R).length≤72:=by
  have:=ksort_len (Dz B++Dz L++Dz R);unfold tmK;have h1:=hB.len;have h2:=hL.len;have h3:=hR.len;unfold Dz at *;rw [List.length_append,List.length_append,List.length_map,List.length_map,List.length_map] at this;omega
theorem K_size {B L R:List File} (hB:TrOk B) (hL:TrOk L) (hR:TrOk R):∀ p∈tmK B L R,p.size≤60:=by
  intro p hp
  have h:∀ l:List File,TrOk l→Gy l p=true→p.size≤60:=by
    intro l hl hh;obtain ⟨f,hf,rfl⟩:=Me.1 hh;exact G5 (hl.path f hf)
  rcases mem_K.1 hp with h1 | h1 | h1
  · exact h B hB h1
  · exact h L hL h1
  · exact h R hR h1
theorem out_srt (B L R:List File):H2 (Mz B L R):=fm_path (outO_path B L R) (ksort_asc _)
theorem late_srtT (B L R:List File):H2 (Mo B L R):=fm_path (O9 B L R) (ksort_asc _)
theorem late_no {B L R:List File} (hB:H2 B) (hL:H2 L) (hR:H2 R):∀ f∈Mo B L R,Gy (Mz B L R) f.Path=false:=by
  intro f hf;cases hh:Gy (Mz B L R) f.Path
  · rfl
  · obtain ⟨g,hg,e⟩:=Me.1 hh;have h1:=((mem_late hB hL hR).1 hf).2;have h2:=((mem_out hB hL hR).1 hg).2;rw [e] at h2;exact absurd h1 h2
theorem vF_ok {B L R:List File} (hB:TrOk B) (hL:TrOk L) (hR:TrOk R) (p:ByteArray):OkO (vF B L R p).1:=(merged_f (lk_ok hB p) (lk_ok hL p) (lk_ok hR p)).2
theorem tmerge {B:List File} {left right:TreePatch} (hB:TrOk B) (h1:(E5 left.Changes B).2.Code=0) (h2:(E5 right.Changes B).2.Code=0) :
    Aq ⟨B⟩ left right=some (if (tmFin B (E5 left.Changes B).1 (E5 right.Changes B).1).length > 24 then (⟨[]⟩,[],⟨10,-1⟩)
      else (⟨tmFin B (E5 left.Changes B).1 (E5 right.Changes B).1⟩,tmFst B (E5 left.Changes B).1 (E5 right.Changes B).1 left right++tmSec B (E5 left.Changes B).1 (E5 right.Changes B).1 left right,⟨0,0⟩)):=by
  obtain ⟨a1,a2,_,_,hL⟩:=Ly h1;obtain ⟨b1,b2,_,_,hR⟩:=Ly h2
  have f1:(E5 left.Changes B).2=⟨0,0⟩:=by
    obtain ⟨_,c2,c3,c4,_⟩:=Ly h1;rw [c4] at h1 ⊢;exact (run_ok _ _ _ c3 c2 h1).2
  have f2:(E5 right.Changes B).2=⟨0,0⟩:=by
    obtain ⟨_,c2,c3,c4,_⟩:=Ly h2;rw [c4] at h2 ⊢;exact (run_ok _ _ _ c3 c2 h2).2
  have eB:Gt B=⟨0,0⟩:=by
    rcases Ql B with h | h
    · exact h
    · exact absurd ((Mf B).2 hB) h
  unfold Aq;rw [Validate_f,Option.bind_some];simp only;rw [eB];simp only [decide_true,Bool.and_self,Bool.not_true,Bool.false_eq_true,if_false];rw [Apply_f,Option.bind_some];simp only;rw [f1];simp only [decide_true,Bool.and_self,Bool.not_true,Bool.false_eq_true,if_false];rw [Apply_f,Option.bind_some];simp only;rw [f2];simp only [decide_true,Bool.and_self,Bool.not_true,Bool.false_eq_true,if_false];generalize (E5 left.Changes B).1=L at hL ⊢;generalize (E5 right.Changes B).1=R at hR ⊢;have lK:=K_len hB hL hR;have sK:=K_size hB hL hR;have lo:(Mz B L R).length≤72:=Nat.le_trans (List.length_filterMap_le _ _) lK;have ll:(Mo B L R).length≤72:=Nat.le_trans (List.length_filterMap_le _ _) lK;have lf:(tmFst B L R left right).length≤72:=Nat.le_trans (List.length_filterMap_le _ _) lK
  have hsz:∀ f,(f∈Mz B L R∨f∈Mo B L R)→f.Path.size≤60∧f.Lines.length≤120:=by
    intro f hf
    have hv:(vF B L R f.Path).1=some f.Lines:=by
      rcases hf with hf | hf
      · exact ((mem_out hB.srt hL.srt hR.srt).1 hf).1
      · exact ((mem_late hB.srt hL.srt hR.srt).1 hf).1
    refine ⟨?_,(vF_ok hB hL hR f.Path f.Lines hv).1⟩;by_cases hk:f.Path∈tmK B L R
    · exact sK _ hk
    · rw [not_K hB.srt hL.srt hR.srt hk] at hv;cases hv
  have lown:(tmOwn B L R).length≤72:=Nat.le_trans (List.length_filter_le _ _) lo
  have hlf:=late_f a2 a1 b2 b1 (own:=tmOwn B L R) (out_srt B L R) (by omega) (late_srtT B L R) (by omega) (late_no hB.srt hL.srt hR.srt) (fun f hf=>(hsz f (.inr hf)).1) (fun f hf=>by have:=(hsz f (.inr hf)).2;omega)
    (fun f hf=>(hsz f (.inl (List.mem_filter.1 hf).1)).1) (by omega)
  have ls:(tmSec B L R left right).length≤72:=Nat.le_trans (List.length_filterMap_le _ _) ll;rw [all_f3 hB.len hL.len hR.len,Option.bind_some];rw [show ksort (Dz B++Dz L++Dz R)=tmK B L R from rfl,walk_f hB hL hR a2 a1 b2 b1 (K:=tmK B L R) (ksort_asc _) (by omega) sK,Option.bind_some]
  simp only;rw [show (tmK B L R).filterMap (fstO B L R left right)=tmFst B L R left right from rfl,show (tmK B L R).filterMap (N2 B L R)=Mo B L R from rfl,show (tmK B L R).filterMap (outO B L R)=Mz B L R from rfl];unfold Aq.j1;rw [own_f hR (by omega),Option.bind_some]
  unfold Aq.j2;rw [show ownF R (Mz B L R)=tmOwn B L R from rfl,hlf,Option.bind_some];simp only;rw [show (Mo B L R).filterMap (secO left right (tmOwn B L R))=tmSec B L R left right from rfl,show (Mo B L R).foldl (Lc (tmOwn B L R)) (Mz B L R)=tmFin B L R from rfl];unfold Aq.j3;rw [Bg];by_cases h24:(tmFin B L R).length > 24
  · rw [if_pos (by omega),if_pos h24]
  · rw [if_neg (by omega),if_neg h24,Es (by omega),Option.bind_some]
theorem tmerge_no {B:List File} {left right:TreePatch} (h:¬ (TrOk B∧(E5 left.Changes B).2.Code=0∧(E5 right.Changes B).2.Code=0)):∃ t c f,Aq ⟨B⟩ left right=some (t,c,f)∧f.Code≠0:=by
  unfold Aq;rw [Validate_f,Option.bind_some];simp only;rcases Ql B with eB | eB
  · rw [eB];simp only [decide_true,Bool.and_self,Bool.not_true,Bool.false_eq_true,if_false];rw [Apply_f,Option.bind_some];simp only;by_cases h1:(E5 left.Changes B).2.Code=0
    · have f1:(E5 left.Changes B).2=⟨0,0⟩:=by
        obtain ⟨_,c2,c3,c4,_⟩:=Ly h1;rw [c4] at h1 ⊢;exact (run_ok _ _ _ c3 c2 h1).2
      rw [f1];simp only [decide_true,Bool.and_self,Bool.not_true,Bool.false_eq_true,if_false];rw [Apply_f,Option.bind_some];simp only;have h2:(E5 right.Changes B).2.Code≠0:=fun h2=>h ⟨(Mf B).1 (by rw [eB]),h1,h2⟩
      rw [if_pos (by simp [h2])]
      exact ⟨_,_,_,rfl,h2⟩
    · rw [if_pos (by simp [h1])]
      exact ⟨_,_,_,rfl,h1⟩
  · rw [if_pos (by simp [eB])]
    exact ⟨_,_,_,rfl,eB⟩
end Go.Dc
