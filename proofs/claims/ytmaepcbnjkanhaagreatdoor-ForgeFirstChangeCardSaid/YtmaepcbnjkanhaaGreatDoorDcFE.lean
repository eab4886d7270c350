import Derived.Test.YtmaepcbnjkanhaaGreatDoorDcFD
set_option linter.unusedSimpArgs false
set_option linter.unusedVariables false
set_option maxRecDepth 4000
noncomputable section
namespace Go.Dc
open Go
section
variable (B L R : List File)
def tmK:List ByteArray:=ksort (Ee B++Ee L++Ee R)
def Qj:List File:=(tmK B L R).filterMap (outO B L R)
def Mn:List File:=(tmK B L R).filterMap (Ou B L R)
def tmFst (left right:TreePatch):List Arr2_Int:=(tmK B L R).filterMap (fstO B L R left right)
def Oe:List File:=ownF R (Qj B L R)
def Oi:List File:=(Mn B L R).foldl (Mm (Oe B L R)) (Qj B L R)
def tmSec (left right:TreePatch):List Arr2_Int:=(Mn B L R).filterMap (secO left right (Oe B L R))
end
theorem mem_K {B L R:List File} {p:ByteArray}:p∈tmK B L R↔Gp B p=true∨Gp L p=true∨Gp R p=true:=by
  unfold tmK;rw [ksort_mem,List.mem_append,List.mem_append,pathsL_mem,pathsL_mem,pathsL_mem];exact or_assoc
theorem not_K {B L R:List File} (hB:G0 B) (hL:G0 L) (hR:G0 R) {p:ByteArray} (h:p ∉ tmK B L R):vF B L R p=(Option.none,true):=by
  rw [mem_K,not_or,not_or] at h;have e1:=(lk_none hB).2 (by simpa using h.1)
  have e2:=(lk_none hL).2 (by simpa using h.2.1)
  have e3:=(lk_none hR).2 (by simpa using h.2.2)
  unfold vF mgO;rw [e1,e2,e3];simp
theorem mem_out {B L R:List File} (hB:G0 B) (hL:G0 L) (hR:G0 R) {f:File}:f∈Qj B L R↔(vF B L R f.Path).1=some f.Lines∧lk L f.Path≠Option.none:=by
  unfold Qj;rw [List.mem_filterMap];constructor
  · rintro ⟨p,_,h⟩;have hp:=outO_path B L R p f h;subst hp;unfold outO at h;split at h
    · rename_i v w h1 h2
      have e:=congrArg File.Lines (Option.some.inj h);simp only at e;exact ⟨by rw [h1,e],by rw [h2];simp⟩
    · cases h
  · rintro ⟨h1,h2⟩;refine ⟨f.Path,?_,?_⟩
    · by_cases hk:f.Path∈tmK B L R
      · exact hk
      · rw [not_K hB hL hR hk] at h1;cases h1
    · unfold outO;cases h3:lk L f.Path with
      | none=>exact absurd h3 h2
      | some w=>rw [h1]
theorem mem_late {B L R:List File} (hB:G0 B) (hL:G0 L) (hR:G0 R) {f:File}:f∈Mn B L R↔(vF B L R f.Path).1=some f.Lines∧lk L f.Path=Option.none:=by
  unfold Mn;rw [List.mem_filterMap];constructor
  · rintro ⟨p,_,h⟩;have hp:=Qk B L R p f h;subst hp;unfold Ou at h;split at h
    · rename_i v h1 h2
      have e:=congrArg File.Lines (Option.some.inj h);simp only at e;exact ⟨by rw [h1,e],h2⟩
    · cases h
  · rintro ⟨h1,h2⟩;refine ⟨f.Path,?_,?_⟩
    · by_cases hk:f.Path∈tmK B L R
      · exact hk
      · rw [not_K hB hL hR hk] at h1;cases h1
    · unfold Ou;rw [h1,h2]
theorem K_len {B L R:List File} (hB:TrOk B) (hL:TrOk L) (hR:TrOk R):(tmK B L R).length≤72:=by
  have:=ksort_len (Ee B++Ee L++Ee R);unfold tmK;have h1:=hB.len;have h2:=hL.len;have h3:=hR.len;unfold Ee at *;rw [List.length_append,List.length_append,List.length_map,List.length_map,List.length_map] at this;omega
theorem K_size {B L R:List File} (hB:TrOk B) (hL:TrOk L) (hR:TrOk R):∀ p∈tmK B L R,p.size≤60:=by
  intro p hp
  have h:∀ l:List File,TrOk l→Gp l p=true→p.size≤60:=by
    intro l hl hh;obtain ⟨f,hf,rfl⟩:=Nl.1 hh;exact Hh (hl.path f hf)
  rcases mem_K.1 hp with h1 | h1 | h1
  · exact h B hB h1
  · exact h L hL h1
  · exact h R hR h1
theorem out_srt (B L R:List File):G0 (Qj B L R):=fm_path (outO_path B L R) (ksort_asc _)
theorem late_srtT (B L R:List File):G0 (Mn B L R):=fm_path (Qk B L R) (ksort_asc _)
theorem late_no {B L R:List File} (hB:G0 B) (hL:G0 L) (hR:G0 R):∀ f∈Mn B L R,Gp (Qj B L R) f.Path=false:=by
  intro f hf;cases hh:Gp (Qj B L R) f.Path
  · rfl
  · obtain ⟨g,hg,e⟩:=Nl.1 hh;have h1:=((mem_late hB hL hR).1 hf).2;have h2:=((mem_out hB hL hR).1 hg).2;rw [e] at h2;exact absurd h1 h2
theorem fin_mem {B L R:List File} {f:File}:f∈Oi B L R↔f∈Qj B L R∨(f∈Mn B L R∧Ej (Oe B L R) f.Path=false):=late_mem _ _ _
theorem fin_srt {B L R:List File} (hB:G0 B) (hL:G0 L) (hR:G0 R):G0 (Oi B L R):=(late_srt (own:=Oe B L R) _ _ (out_srt B L R) (late_srtT B L R) (late_no hB hL hR)).1
theorem vF_ok {B L R:List File} (hBn:B=[]) (hB:TrOk B) (hL:TrOk L) (hR:TrOk R) (p:ByteArray):OkO (vF B L R p).1:=(merged_f (lkn hBn p) (lk_ok hL p) (lk_ok hR p)).2
theorem tmerge {B:List File} {left right:TreePatch} (hBn:B=[]) (hvt:∀ p,(vF B (Cz left.Changes B).1 (Cz right.Changes B).1 p).2=true) (hrel:∀ x∈Mn B (Cz left.Changes B).1 (Cz right.Changes B).1,Ej (Oe B (Cz left.Changes B).1 (Cz right.Changes B).1) x.Path=false) (hB:TrOk B) (h1:(Cz left.Changes B).2.Code=0) (h2:(Cz right.Changes B).2.Code=0) :
    Au ⟨B⟩ left right=some (if (Oi B (Cz left.Changes B).1 (Cz right.Changes B).1).length > 24 then (⟨[]⟩,[],⟨10,-1⟩)
      else (⟨Oi B (Cz left.Changes B).1 (Cz right.Changes B).1⟩,tmFst B (Cz left.Changes B).1 (Cz right.Changes B).1 left right++tmSec B (Cz left.Changes B).1 (Cz right.Changes B).1 left right,⟨0,0⟩)):=by
  obtain ⟨a1,a2,_,_,hL⟩:=Na h1;obtain ⟨b1,b2,_,_,hR⟩:=Na h2
  have f1:(Cz left.Changes B).2=⟨0,0⟩:=by
    obtain ⟨_,c2,c3,c4,_⟩:=Na h1;rw [c4] at h1 ⊢;exact (run_ok _ _ _ c3 c2 h1).2
  have f2:(Cz right.Changes B).2=⟨0,0⟩:=by
    obtain ⟨_,c2,c3,c4,_⟩:=Na h2;rw [c4] at h2 ⊢;exact (run_ok _ _ _ c3 c2 h2).2
  have eB:Ef B=⟨0,0⟩:=by
    rcases Qn B with h | h
    · exact h
    · exact absurd ((Gl B).2 hB) h
  unfold Au;rw [Validate_f,Option.bind_some];simp only;rw [eB];simp only [decide_true,Bool.and_self,Bool.not_true,Bool.false_eq_true,if_false];rw [Apply_f,Option.bind_some];simp only;rw [f1];simp only [decide_true,Bool.and_self,Bool.not_true,Bool.false_eq_true,if_false];rw [Apply_f,Option.bind_some];simp only;rw [f2];simp only [decide_true,Bool.and_self,Bool.not_true,Bool.false_eq_true,if_false];generalize (Cz left.Changes B).1=L at hL hvt hrel ⊢;generalize (Cz right.Changes B).1=R at hR hvt hrel ⊢;have lK:=K_len hB hL hR;have sK:=K_size hB hL hR;have lo:(Qj B L R).length≤72:=Nat.le_trans (List.length_filterMap_le _ _) lK;have ll:(Mn B L R).length≤72:=Nat.le_trans (List.length_filterMap_le _ _) lK;have lf:(tmFst B L R left right).length≤72:=Nat.le_trans (List.length_filterMap_le _ _) lK
  have hsz:∀ f,(f∈Qj B L R∨f∈Mn B L R)→f.Path.size≤60∧f.Lines.length≤120:=by
    intro f hf
    have hv:(vF B L R f.Path).1=some f.Lines:=by
      rcases hf with hf | hf
      · exact ((mem_out hB.srt hL.srt hR.srt).1 hf).1
      · exact ((mem_late hB.srt hL.srt hR.srt).1 hf).1
    refine ⟨?_,(vF_ok hBn hB hL hR f.Path f.Lines hv).1⟩;by_cases hk:f.Path∈tmK B L R
    · exact sK _ hk
    · rw [not_K hB.srt hL.srt hR.srt hk] at hv;cases hv
  have lown:(Oe B L R).length≤72:=Nat.le_trans (List.length_filter_le _ _) lo
  have hlf:=late_f (own:=Oe B L R) hrel a2 a1 b2 b1 (out_srt B L R) (by omega) (late_srtT B L R) (by omega) (late_no hB.srt hL.srt hR.srt) (fun f hf=>(hsz f (.inr hf)).1) (fun f hf=>by have:=(hsz f (.inr hf)).2;omega)
    (fun f hf=>(hsz f (.inl (List.mem_filter.1 hf).1)).1) (by omega)
  have ls:(tmSec B L R left right).length≤72:=Nat.le_trans (List.length_filterMap_le _ _) ll;rw [all_f3 hB.len hL.len hR.len,Option.bind_some];rw [show ksort (Ee B++Ee L++Ee R)=tmK B L R from rfl,walk_f hBn hvt hB hL hR a2 a1 b2 b1 (K:=tmK B L R) (ksort_asc _) (by omega) sK,Option.bind_some]
  simp only;rw [show (tmK B L R).filterMap (fstO B L R left right)=tmFst B L R left right from rfl,show (tmK B L R).filterMap (Ou B L R)=Mn B L R from rfl,show (tmK B L R).filterMap (outO B L R)=Qj B L R from rfl];unfold Au.j1;rw [own_f hR (by omega),Option.bind_some]
  unfold Au.j2;rw [show ownF R (Qj B L R)=Oe B L R from rfl,hlf,Option.bind_some];simp only;rw [show (Mn B L R).filterMap (secO left right (Oe B L R))=tmSec B L R left right from rfl,show (Mn B L R).foldl (Mm (Oe B L R)) (Qj B L R)=Oi B L R from rfl];unfold Au.j3;rw [Ba];by_cases h24:(Oi B L R).length > 24
  · rw [if_pos (by omega),if_pos h24]
  · rw [if_neg (by omega),if_neg h24,K3 (by omega),Option.bind_some]
theorem fst_nil {B L R:List File} (hB:G0 B) (hL:G0 L) (hR:G0 R) {left right:TreePatch}:tmFst B L R left right=[]↔∀ p,(vF B L R p).2=true:=by
  unfold tmFst;rw [List.filterMap_eq_nil_iff];constructor
  · intro h p;by_cases hk:p∈tmK B L R
    · have:=h p hk;unfold fstO at this;split at this
      · assumption
      · cases this
    · rw [not_K hB hL hR hk]
  · intro h p _;unfold fstO;rw [if_pos (h p)]
theorem sec_nil {B L R:List File} {left right:TreePatch}:tmSec B L R left right=[]↔∀ x∈Mn B L R,Ej (Oe B L R) x.Path=false:=by
  unfold tmSec;rw [List.filterMap_eq_nil_iff];constructor
  · intro h x hx;have:=h x hx;unfold secO at this;cases hr:Ej (Oe B L R) x.Path
    · rfl
    · rw [if_pos hr] at this;cases this
  · intro h x hx;unfold secO;rw [h x hx,if_neg Bool.false_ne_true]
theorem tm_left {B L R:List File} (hB:TrOk B) (hL:TrOk L) (hR:TrOk R) (h:∀ p,vF B L R p=(lk R p,true)) (left right:TreePatch):Oi B L R=R∧tmFst B L R left right=[]∧tmSec B L R left right=[]:=by
  have hown:Oe B L R=[]:=by
    unfold Oe ownF;rw [List.filter_eq_nil_iff];intro f hf;have h1:=((mem_out hB.srt hL.srt hR.srt).1 hf).1;rw [h] at h1
    have:Gp R f.Path=true:=by
      cases hh:Gp R f.Path
      · rw [(lk_none hR.srt).2 hh] at h1;cases h1
      · rfl
    rw [this];simp
  have hrel:∀ p,Ej (Oe B L R) p=false:=fun p=>by rw [hown];rfl
  refine ⟨res_eq (fin_srt hB.srt hL.srt hR.srt) hR.srt fun f=>?_,(fst_nil hB.srt hL.srt hR.srt).2 fun p=>by rw [h],sec_nil.2 fun x hx=>hrel _⟩
  rw [fin_mem,mem_out hB.srt hL.srt hR.srt,mem_late hB.srt hL.srt hR.srt,h,hrel];constructor
  · rintro (⟨h1,_⟩ | ⟨⟨h1,_⟩,_⟩)
    · exact (lk_some hR.srt).1 h1
    · exact (lk_some hR.srt).1 h1
  · intro hf;have:=(lk_some hR.srt (p:=f.Path) (L:=f.Lines)).2 hf;by_cases hn:lk L f.Path=Option.none
    · exact .inr ⟨⟨this,hn⟩,rfl⟩
    · exact .inl ⟨this,hn⟩
end Go.Dc
