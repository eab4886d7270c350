import Derived.Test.YtfpbdmldeikfbaaGreatDoorDcTab
import Derived.Test.YtfpbdmldeikfbaaGreatDoorDcAU
import Derived.Test.YtfpbdmldeikfbaaGreatDoorDcM
import Derived.Test.YtfpbdmldeikfbaaGreatDoorDcW14
import Derived.Test.YtfpbdmldeikfbaaGreatDoorDcW15
set_option linter.unusedSimpArgs false
set_option linter.unusedVariables false
namespace Go.Dc
open Go Go.Proofs
set_option maxRecDepth 100000
set_option maxHeartbeats 8000000
set_option linter.unusedVariables false
theorem Ya {g:Gh} {fr:Hl} {w:World} {r:Fault} (keys:(List Int)) (vkeys1:Value) (hkeys1:RepSl g keys vkeys1) (l_:Cx) (vl_1:Value) (hl_1:RepSl g l_ vl_1) (S:St g [] fr w) (hm:Bt keys l_=some r) :
  Calls Tryz.prog 6 [vkeys1,vl_1].toArray w (fun en w'=>∃ v,en=.returned v∧∃ (g':Gh),Le g g'∧St g' [] fr w'∧.agg #[.i6 r.Code,.i6 r.Index]=v):=by
 unfold Bt at hm;refine An (fn:=Tryz.f6) Tryz.func6 Z Tryz.ntmps6 (lb Z) ?_;intro a F;replace F:Fr 118 a [(0,vkeys1),(1,vl_1)]:=F
 haveI:∀ (keys:(List Int)) (l_:Cx),LH (fun s=>Bt.l1 keys l_ s) [4,0,1] (fun g5 s e c=>e=[(6,.i6 s)]∧c=[]∧True):=fun _ _=>{}
 haveI:∀ (keys:(List Int)),LH (fun s=>Bt.l2 keys s) [4,0,1] (fun g15 s e c=>e=[(5,.i6 s)]∧c=[]∧True):=fun _=>{}
 exact goC F S
theorem T0 {g:Gh} {fr:Hl} {w:World} {r:Bool} (a_:Ab) (va_1:Value) (ha_1:RepSl g a_ va_1) (b_:Ab) (vb_1:Value) (hb_1:RepSl g b_ vb_1) (S:St g [] fr w) (hm:D5 a_ b_=some r) :
  Calls Tryz.prog 24 [va_1,vb_1].toArray w (fun en w'=>∃ v,en=.returned v∧∃ (g':Gh),Le g g'∧St g' [] fr w'∧.bool r=v):=by
 unfold D5 at hm;refine An (fn:=Tryz.f24) Tryz.func24 Z Tryz.ntmps24 (lb Z) ?_;intro a F;replace F:Fr 26 a [(0,va_1),(1,vb_1)]:=F
 haveI:∀ (a_:Ab) (b_:Ab),LH (fun s=>D5.l1 a_ b_ s) [0,1] (fun g2 s e c=>e=[(5,.i6 s)]∧c=[]∧True):=fun _ _=>{}
 exact goC F S
instance:Con Tryz.prog 24 0 (type_of% @T0):=⟨@T0,tc24⟩
theorem Qb {g:Gh} {fr:Hl} {w:World} {r:Bool} (a_:FileTree) (va_1:Value) (ha_1:RepSl g a_.Files va_1) (b_:FileTree) (vb_1:Value) (hb_1:RepSl g b_.Files vb_1) (S:St g [] fr w) (hm:Eh a_ b_=some r) :
  Calls Tryz.prog 10 [.agg #[va_1],.agg #[vb_1]].toArray w (fun en w'=>∃ v,en=.returned v∧∃ (g':Gh),Le g g'∧St g' [] fr w'∧.bool r=v):=by
 unfold Eh at hm;refine An (fn:=Tryz.f10) Tryz.func10 Z Tryz.ntmps10 (lb Z) ?_;intro a F;replace F:Fr 49 a [(0,.agg #[va_1]),(1,.agg #[vb_1])]:=F
 haveI:∀ (a_:FileTree) (b_:FileTree),LH (fun s=>Eh.l1 a_ b_ s) [3,2] (fun g2 s e c=>e=[(5,.i6 s)]∧c=[]∧True):=fun _ _=>{}
 exact goC F S
theorem Vf {g:Gh} {fr:Hl} {w:World} {r:Bool} (a_:Patch) (va_1:Value) (ha_1:RepSl g a_.Hunks va_1) (b_:Patch) (vb_1:Value) (hb_1:RepSl g b_.Hunks vb_1) (S:St g [] fr w) (hm:E1 a_ b_=some r) :
  Calls Tryz.prog 58 [.agg #[va_1],.agg #[vb_1]].toArray w (fun en w'=>∃ v,en=.returned v∧∃ (g':Gh),Le g g'∧St g' [] fr w'∧.bool r=v):=by
 unfold E1 at hm;refine An (fn:=Tryz.f58) Tryz.func58 Z Tryz.ntmps58 (lb Z) ?_;intro a F;replace F:Fr 65 a [(0,.agg #[va_1]),(1,.agg #[vb_1])]:=F
 haveI:∀ (a_:Patch) (b_:Patch),LH (fun s=>E1.l1 a_ b_ s) [3,2] (fun g2 s e c=>e=[(5,.i6 s)]∧c=[]∧True):=fun _ _=>{}
 exact goC F S
instance:Con Tryz.prog 58 0 (type_of% @Vf):=⟨@Vf,tc58⟩
theorem Um {g:Gh} {fr:Hl} {w:World} {r:Bool} (a_:TreeChange) (va_1:Value) (ha_1:RepSl g a_.Lines va_1) (va_2:Value) (ha_2:RepSl g a_.Patch.Hunks va_2) (b_:TreeChange) (vb_1:Value) (hb_1:RepSl g b_.Lines vb_1) (vb_2:Value) (hb_2:RepSl g b_.Patch.Hunks vb_2) (S:St g [] fr w) (hm:Li a_ b_=some r) :
  Calls Tryz.prog 36 [.agg #[.i6 a_.Kind,.string a_.Path,.string a_.To,va_1,va_2],.agg #[.i6 b_.Kind,.string b_.Path,.string b_.To,vb_1,vb_2]].toArray w (fun en w'=>∃ v,en=.returned v∧∃ (g':Gh),Le g g'∧St g' [] fr w'∧.bool r=v):=by
 unfold Li at hm;refine An (fn:=Tryz.f36) Tryz.func36 Z Tryz.ntmps36 (lb Z) ?_;intro a F;replace F:Fr 38 a [(0,.agg #[.i6 a_.Kind,.string a_.Path,.string a_.To,va_1,va_2]),(1,.agg #[.i6 b_.Kind,.string b_.Path,.string b_.To,vb_1,vb_2])]:=F;exact goC F S
instance:Con Tryz.prog 36 0 (type_of% (fun {g} {fr} {w} {r} a1 a2 a3 a4 a5 va_1 ha_1 va_2 ha_2 b1 b2 b3 b4 b5 vb_1 hb_1 vb_2 hb_2=>@Um g fr w r ⟨a1,a2,a3,a4,⟨a5⟩⟩ va_1 ha_1 va_2 ha_2 ⟨b1,b2,b3,b4,⟨b5⟩⟩ vb_1 hb_1 vb_2 hb_2)):=⟨(fun {g} {fr} {w} {r} a1 a2 a3 a4 a5 va_1 ha_1 va_2 ha_2 b1 b2 b3 b4 b5 vb_1 hb_1 vb_2 hb_2=>@Um g fr w r ⟨a1,a2,a3,a4,⟨a5⟩⟩ va_1 ha_1 va_2 ha_2 ⟨b1,b2,b3,b4,⟨b5⟩⟩ vb_1 hb_1 vb_2 hb_2),tc36⟩
theorem Qu {g:Gh} {fr:Hl} {w:World} {r:Bool} (a_:TreePatch) (va_1:Value) (ha_1:RepSl g a_.Changes va_1) (b_:TreePatch) (vb_1:Value) (hb_1:RepSl g b_.Changes vb_1) (S:St g [] fr w) (hm:Ed a_ b_=some r) :
  Calls Tryz.prog 25 [.agg #[va_1],.agg #[vb_1]].toArray w (fun en w'=>∃ v,en=.returned v∧∃ (g':Gh),Le g g'∧St g' [] fr w'∧.bool r=v):=by
 unfold Ed at hm;refine An (fn:=Tryz.f25) Tryz.func25 Z Tryz.ntmps25 (lb Z) ?_;intro a F;replace F:Fr 32 a [(0,.agg #[va_1]),(1,.agg #[vb_1])]:=F
 haveI:∀ (a_:TreePatch) (b_:TreePatch),LH (fun s=>Ed.l1 a_ b_ s) [3,2] (fun g2 s e c=>e=[(5,.i6 s)]∧c=[]∧True):=fun _ _=>{}
 exact goC F S
instance:Con Tryz.prog 25 0 (type_of% @Qu):=⟨@Qu,tc25⟩
theorem Ty {g:Gh} {fr:Hl} {w:World} {r:Bool} (a_:D2) (va_1:Value) (ha_1:RepSl g a_ va_1) (b_:D2) (vb_1:Value) (hb_1:RepSl g b_ vb_1) (S:St g [] fr w) (hm:Ef a_ b_=some r) :
  Calls Tryz.prog 11 [va_1,vb_1].toArray w (fun en w'=>∃ v,en=.returned v∧∃ (g':Gh),Le g g'∧St g' [] fr w'∧.bool r=v):=by
 unfold Ef at hm;refine An (fn:=Tryz.f11) Tryz.func11 Z Tryz.ntmps11 (lb Z) ?_;intro a F;replace F:Fr 55 a [(0,va_1),(1,vb_1)]:=F
 haveI:∀ (a_:D2) (b_:D2),LH (fun s=>Ef.l1 a_ b_ s) [0,1] (fun g2 s e c=>e=[(5,.i6 s)]∧c=[]∧True):=fun _ _=>{}
 exact goC F S
end Go.Dc
