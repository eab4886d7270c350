import Derived.Test.YtfpbdmldeikfbaaGreatDoorDcZN
set_option linter.unusedSimpArgs false
set_option linter.unusedVariables false
namespace Go.Dc
open Go
structure Fault where
 Code:Int
 Index:Int
instance:Rep Fault where
 n:=2
 rep:=fun g x cs=>cs=[.int .i64 x.Code,.int .i64 x.Index]
 len:=fun h=>by obtain rfl:=h;rfl
 mono:=fun hl h=>by obtain h:=h;exact h
 one:=fun h=>by obtain rfl:=h;exact Ba rfl (Ba rfl (E0))
theorem rep_Fault_mk {g:Gh} {x:Fault}:Rep.rep g x [.int .i64 x.Code,.int .i64 x.Index]:=rfl
structure Hunk where
 At:Int
 Old:(List ByteArray)
 New:(List ByteArray)
instance:Rep Hunk where
 n:=3
 rep:=fun g x cs=>∃ v1 v2:Value,cs=[.int .i64 x.At,v1,v2]∧RepSl g x.Old v1∧RepSl g x.New v2
 len:=fun h=>by obtain ⟨v1,v2,rfl,h1,h2⟩:=h;rfl
 mono:=fun hl h=>by obtain ⟨v1,v2,h,h1,h2⟩:=h;exact ⟨v1,v2,h,h1.mono hl,h2.mono hl⟩
 one:=fun h=>by obtain ⟨v1,v2,rfl,h1,h2⟩:=h;exact Ba rfl (Ba h1.one (Ba h2.one (E0)))
theorem Zt {g:Gh} {x:Hunk} {cs:List Value} (h:Rep.rep g x cs):∃ v1 v2:Value,cs=[.int .i64 x.At,v1,v2]∧RepSl g x.Old v1∧RepSl g x.New v2:=h
theorem rep_Hunk_mk {g:Gh} {x:Hunk} {v1:Value} {v2:Value} (h1:RepSl g x.Old v1) (h2:RepSl g x.New v2):Rep.rep g x [.int .i64 x.At,v1,v2]:=⟨v1,v2,rfl,h1,h2⟩
structure Patch where
 Hunks:(List Hunk)
instance:Rep Patch where
 n:=1
 rep:=fun g x cs=>∃ v1:Value,cs=[v1]∧RepSl g x.Hunks v1
 len:=fun h=>by obtain ⟨v1,rfl,h1⟩:=h;rfl
 mono:=fun hl h=>by obtain ⟨v1,h,h1⟩:=h;exact ⟨v1,h,h1.mono hl⟩
 one:=fun h=>by obtain ⟨v1,rfl,h1⟩:=h;exact Ba h1.one (E0)
theorem rep_Patch {g:Gh} {x:Patch} {cs:List Value} (h:Rep.rep g x cs):∃ v1:Value,cs=[v1]∧RepSl g x.Hunks v1:=h
theorem rep_Patch_mk {g:Gh} {x:Patch} {v1:Value} (h1:RepSl g x.Hunks v1):Rep.rep g x [v1]:=⟨v1,rfl,h1⟩
structure TreeChange where
 Kind:Int
 Path:ByteArray
 To:ByteArray
 Lines:(List ByteArray)
 Patch:Patch
instance:Rep TreeChange where
 n:=5
 rep:=fun g x cs=>∃ v1 v2:Value,cs=[.int .i64 x.Kind,.string x.Path,.string x.To,v1,v2]∧RepSl g x.Lines v1∧RepSl g x.Patch.Hunks v2
 len:=fun h=>by obtain ⟨v1,v2,rfl,h1,h2⟩:=h;rfl
 mono:=fun hl h=>by obtain ⟨v1,v2,h,h1,h2⟩:=h;exact ⟨v1,v2,h,h1.mono hl,h2.mono hl⟩
 one:=fun h=>by obtain ⟨v1,v2,rfl,h1,h2⟩:=h;exact Ba rfl (Ba rfl (Ba rfl (Ba h1.one (Ba h2.one (E0)))))
theorem rep_TreeChange {g:Gh} {x:TreeChange} {cs:List Value} (h:Rep.rep g x cs):∃ v1 v2:Value,cs=[.int .i64 x.Kind,.string x.Path,.string x.To,v1,v2]∧RepSl g x.Lines v1∧RepSl g x.Patch.Hunks v2:=h
theorem T5 {g:Gh} {x:TreeChange} {v1:Value} {v2:Value} (h1:RepSl g x.Lines v1) (h2:RepSl g x.Patch.Hunks v2):Rep.rep g x [.int .i64 x.Kind,.string x.Path,.string x.To,v1,v2]:=⟨v1,v2,rfl,h1,h2⟩
structure TreePatch where
 Changes:(List TreeChange)
instance:Rep TreePatch where
 n:=1
 rep:=fun g x cs=>∃ v1:Value,cs=[v1]∧RepSl g x.Changes v1
 len:=fun h=>by obtain ⟨v1,rfl,h1⟩:=h;rfl
 mono:=fun hl h=>by obtain ⟨v1,h,h1⟩:=h;exact ⟨v1,h,h1.mono hl⟩
 one:=fun h=>by obtain ⟨v1,rfl,h1⟩:=h;exact Ba h1.one (E0)
theorem rep_TreePatch {g:Gh} {x:TreePatch} {cs:List Value} (h:Rep.rep g x cs):∃ v1:Value,cs=[v1]∧RepSl g x.Changes v1:=h
theorem rep_TreePatch_mk {g:Gh} {x:TreePatch} {v1:Value} (h1:RepSl g x.Changes v1):Rep.rep g x [v1]:=⟨v1,rfl,h1⟩
structure ForgeEvent where
 Kind:Int
 User:Int
 Key:Int
 N:Int
 Patch:TreePatch
instance:Rep ForgeEvent where
 n:=5
 rep:=fun g x cs=>∃ v1:Value,cs=[.int .i64 x.Kind,.int .i64 x.User,.int .i64 x.Key,.int .i64 x.N,v1]∧RepSl g x.Patch.Changes v1
 len:=fun h=>by obtain ⟨v1,rfl,h1⟩:=h;rfl
 mono:=fun hl h=>by obtain ⟨v1,h,h1⟩:=h;exact ⟨v1,h,h1.mono hl⟩
 one:=fun h=>by obtain ⟨v1,rfl,h1⟩:=h;exact Ba rfl (Ba rfl (Ba rfl (Ba rfl (Ba h1.one (E0)))))
theorem rep_ForgeEvent {g:Gh} {x:ForgeEvent} {cs:List Value} (h:Rep.rep g x cs):∃ v1:Value,cs=[.int .i64 x.Kind,.int .i64 x.User,.int .i64 x.Key,.int .i64 x.N,v1]∧RepSl g x.Patch.Changes v1:=h
theorem Oz {g:Gh} {x:ForgeEvent} {v1:Value} (h1:RepSl g x.Patch.Changes v1):Rep.rep g x [.int .i64 x.Kind,.int .i64 x.User,.int .i64 x.Key,.int .i64 x.N,v1]:=⟨v1,rfl,h1⟩
structure File where
 Path:ByteArray
 Lines:(List ByteArray)
instance:Rep File where
 n:=2
 rep:=fun g x cs=>∃ v1:Value,cs=[.string x.Path,v1]∧RepSl g x.Lines v1
 len:=fun h=>by obtain ⟨v1,rfl,h1⟩:=h;rfl
 mono:=fun hl h=>by obtain ⟨v1,h,h1⟩:=h;exact ⟨v1,h,h1.mono hl⟩
 one:=fun h=>by obtain ⟨v1,rfl,h1⟩:=h;exact Ba rfl (Ba h1.one (E0))
theorem rep_File {g:Gh} {x:File} {cs:List Value} (h:Rep.rep g x cs):∃ v1:Value,cs=[.string x.Path,v1]∧RepSl g x.Lines v1:=h
theorem rep_File_mk {g:Gh} {x:File} {v1:Value} (h1:RepSl g x.Lines v1):Rep.rep g x [.string x.Path,v1]:=⟨v1,rfl,h1⟩
structure FileTree where
 Files:(List File)
instance:Rep FileTree where
 n:=1
 rep:=fun g x cs=>∃ v1:Value,cs=[v1]∧RepSl g x.Files v1
 len:=fun h=>by obtain ⟨v1,rfl,h1⟩:=h;rfl
 mono:=fun hl h=>by obtain ⟨v1,h,h1⟩:=h;exact ⟨v1,h,h1.mono hl⟩
 one:=fun h=>by obtain ⟨v1,rfl,h1⟩:=h;exact Ba h1.one (E0)
theorem rep_FileTree {g:Gh} {x:FileTree} {cs:List Value} (h:Rep.rep g x cs):∃ v1:Value,cs=[v1]∧RepSl g x.Files v1:=h
theorem V7 {g:Gh} {x:FileTree} {v1:Value} (h1:RepSl g x.Files v1):Rep.rep g x [v1]:=⟨v1,rfl,h1⟩
structure Developer_forge where
 tree:FileTree
 base:Int
 sent:Int
 accepted:Int
instance:Rep Developer_forge where
 n:=4
 rep:=fun g x cs=>∃ v1:Value,cs=[v1,.int .i64 x.base,.int .i64 x.sent,.int .i64 x.accepted]∧RepSl g x.tree.Files v1
 len:=fun h=>by obtain ⟨v1,rfl,h1⟩:=h;rfl
 mono:=fun hl h=>by obtain ⟨v1,h,h1⟩:=h;exact ⟨v1,h,h1.mono hl⟩
 one:=fun h=>by obtain ⟨v1,rfl,h1⟩:=h;exact Ba h1.one (Ba rfl (Ba rfl (Ba rfl (E0))))
theorem W3 {g:Gh} {x:Developer_forge} {v1:Value} (h1:RepSl g x.tree.Files v1):Rep.rep g x [v1,.int .i64 x.base,.int .i64 x.sent,.int .i64 x.accepted]:=⟨v1,rfl,h1⟩
structure Message_forge where
 user:Int
 number:Int
 base:Int
 signature:Int
 patch:TreePatch
instance:Rep Message_forge where
 n:=5
 rep:=fun g x cs=>∃ v1:Value,cs=[.int .i64 x.user,.int .i64 x.number,.int .i64 x.base,.int .i64 x.signature,v1]∧RepSl g x.patch.Changes v1
 len:=fun h=>by obtain ⟨v1,rfl,h1⟩:=h;rfl
 mono:=fun hl h=>by obtain ⟨v1,h,h1⟩:=h;exact ⟨v1,h,h1.mono hl⟩
 one:=fun h=>by obtain ⟨v1,rfl,h1⟩:=h;exact Ba rfl (Ba rfl (Ba rfl (Ba rfl (Ba h1.one (E0)))))
theorem Aal {g:Gh} {x:Message_forge} {cs:List Value} (h:Rep.rep g x cs):∃ v1:Value,cs=[.int .i64 x.user,.int .i64 x.number,.int .i64 x.base,.int .i64 x.signature,v1]∧RepSl g x.patch.Changes v1:=h
theorem O1 {g:Gh} {x:Message_forge} {v1:Value} (h1:RepSl g x.patch.Changes v1):Rep.rep g x [.int .i64 x.user,.int .i64 x.number,.int .i64 x.base,.int .i64 x.signature,v1]:=⟨v1,rfl,h1⟩
structure ForgeEntry where
 User:Int
 Number:Int
 Patch:TreePatch
instance:Rep ForgeEntry where
 n:=3
 rep:=fun g x cs=>∃ v1:Value,cs=[.int .i64 x.User,.int .i64 x.Number,v1]∧RepSl g x.Patch.Changes v1
 len:=fun h=>by obtain ⟨v1,rfl,h1⟩:=h;rfl
 mono:=fun hl h=>by obtain ⟨v1,h,h1⟩:=h;exact ⟨v1,h,h1.mono hl⟩
 one:=fun h=>by obtain ⟨v1,rfl,h1⟩:=h;exact Ba rfl (Ba rfl (Ba h1.one (E0)))
theorem Aaj {g:Gh} {x:ForgeEntry} {v1:Value} (h1:RepSl g x.Patch.Changes v1):Rep.rep g x [.int .i64 x.User,.int .i64 x.Number,v1]:=⟨v1,rfl,h1⟩
structure State_forge where
 keys:(List Int)
 versions:(List FileTree)
 developers:(List Developer_forge)
 flight:(List Message_forge)
 log:(List ForgeEntry)
instance:Rep State_forge where
 n:=5
 rep:=fun g x cs=>∃ v1 v2 v3 v4 v5:Value,cs=[v1,v2,v3,v4,v5]∧RepSl g x.keys v1∧RepSl g x.versions v2∧RepSl g x.developers v3∧RepSl g x.flight v4∧RepSl g x.log v5
 len:=fun h=>by obtain ⟨v1,v2,v3,v4,v5,rfl,h1,h2,h3,h4,h5⟩:=h;rfl
 mono:=fun hl h=>by obtain ⟨v1,v2,v3,v4,v5,h,h1,h2,h3,h4,h5⟩:=h;exact ⟨v1,v2,v3,v4,v5,h,h1.mono hl,h2.mono hl,h3.mono hl,h4.mono hl,h5.mono hl⟩
 one:=fun h=>by obtain ⟨v1,v2,v3,v4,v5,rfl,h1,h2,h3,h4,h5⟩:=h;exact Ba h1.one (Ba h2.one (Ba h3.one (Ba h4.one (Ba h5.one (E0)))))
theorem rep_State_forge_mk {g:Gh} {x:State_forge} {v1:Value} {v2:Value} {v3:Value} {v4:Value} {v5:Value} (h1:RepSl g x.keys v1) (h2:RepSl g x.versions v2) (h3:RepSl g x.developers v3) (h4:RepSl g x.flight v4) (h5:RepSl g x.log v5):Rep.rep g x [v1,v2,v3,v4,v5]:=⟨v1,v2,v3,v4,v5,rfl,h1,h2,h3,h4,h5⟩
structure Collector_diff where
 hunks:(List Hunk)
 at_:Int
 open_:Bool
instance:Rep Collector_diff where
 n:=3
 rep:=fun g x cs=>∃ v1:Value,cs=[v1,.int .i64 x.at_,.bool x.open_]∧RepSl g x.hunks v1
 len:=fun h=>by obtain ⟨v1,rfl,h1⟩:=h;rfl
 mono:=fun hl h=>by obtain ⟨v1,h,h1⟩:=h;exact ⟨v1,h,h1.mono hl⟩
 one:=fun h=>by obtain ⟨v1,rfl,h1⟩:=h;exact Ba h1.one (Ba rfl (Ba rfl (E0)))
theorem rep_Collector_diff_mk {g:Gh} {x:Collector_diff} {v1:Value} (h1:RepSl g x.hunks v1):Rep.rep g x [v1,.int .i64 x.at_,.bool x.open_]:=⟨v1,rfl,h1⟩
instance:ORep Hunk where
 orep:=fun g x cs c=>∃ (v1:Value) (c1:Hl),∃ (v2:Value) (c2:Hl),cs=[.int .i64 x.At,v1,v2]∧c=(c1++(c2++[]))∧OwnS g x.Old v1 c1∧OwnS g x.New v2 c2
 olen:=fun h=>by obtain ⟨v1,c1,v2,c2,rfl,rfl,h1,h2⟩:=h;rfl
 omono:=fun hl h=>by obtain ⟨v1,c1,v2,c2,hc,hd,h1,h2⟩:=h;exact ⟨v1,c1,v2,c2,hc,hd,h1.mono hl,h2.mono hl⟩
 oone:=fun h=>by obtain ⟨v1,c1,v2,c2,rfl,rfl,h1,h2⟩:=h;exact Ba rfl (Ba h1.one (Ba h2.one (E0)))
 ofz:=fun hl hf h=>by obtain ⟨v1,c1,v2,c2,rfl,rfl,h1,h2⟩:=h;exact ⟨v1,v2,rfl,h1.fz hl hf.left,h2.fz hl hf.right.left⟩
theorem orep_Hunk {g:Gh} {x:Hunk} {cs:List Value} {c:Hl} (h:ORep.orep g x cs c):∃ (v1:Value) (c1:Hl),∃ (v2:Value) (c2:Hl),cs=[.int .i64 x.At,v1,v2]∧c=(c1++(c2++[]))∧OwnS g x.Old v1 c1∧OwnS g x.New v2 c2:=h
theorem Q4 {g:Gh} {x:Hunk} {v1:Value} {c1:Hl} {v2:Value} {c2:Hl} (h1:OwnS g x.Old v1 c1) (h2:OwnS g x.New v2 c2):ORep.orep g x [.int .i64 x.At,v1,v2] (c1++(c2++[])):=⟨v1,c1,v2,c2,rfl,rfl,h1,h2⟩
structure Step_digest where
 e0:Int
 e1:Int
instance:Rep Step_digest where
 n:=2
 rep:=fun g x cs=>cs=[.int .i64 x.e0,.int .i64 x.e1]
 len:=fun h=>by obtain rfl:=h;rfl
 mono:=fun hl h=>by obtain h:=h;exact h
 one:=fun h=>by obtain rfl:=h;exact Ba rfl (Ba rfl (E0))
theorem rep_Step_digest_mk {g:Gh} {x:Step_digest}:Rep.rep g x [.int .i64 x.e0,.int .i64 x.e1]:=rfl
structure Version_treecommute where
 is:Bool
 lines:(List ByteArray)
instance:Rep Version_treecommute where
 n:=2
 rep:=fun g x cs=>∃ v1:Value,cs=[.bool x.is,v1]∧RepSl g x.lines v1
 len:=fun h=>by obtain ⟨v1,rfl,h1⟩:=h;rfl
 mono:=fun hl h=>by obtain ⟨v1,h,h1⟩:=h;exact ⟨v1,h,h1.mono hl⟩
 one:=fun h=>by obtain ⟨v1,rfl,h1⟩:=h;exact Ba rfl (Ba h1.one (E0))
theorem Zm {g:Gh} {x:Version_treecommute} {v1:Value} (h1:RepSl g x.lines v1):Rep.rep g x [.bool x.is,v1]:=⟨v1,rfl,h1⟩
structure Range_commute where
 Low:Int
 High:Int
 Growth:Int
instance:Rep Range_commute where
 n:=3
 rep:=fun g x cs=>cs=[.int .i64 x.Low,.int .i64 x.High,.int .i64 x.Growth]
 len:=fun h=>by obtain rfl:=h;rfl
 mono:=fun hl h=>by obtain h:=h;exact h
 one:=fun h=>by obtain rfl:=h;exact Ba rfl (Ba rfl (Ba rfl (E0)))
theorem rep_Range_commute {g:Gh} {x:Range_commute} {cs:List Value} (h:Rep.rep g x cs):cs=[.int .i64 x.Low,.int .i64 x.High,.int .i64 x.Growth]:=h
theorem rep_Range_commute_mk {g:Gh} {x:Range_commute}:Rep.rep g x [.int .i64 x.Low,.int .i64 x.High,.int .i64 x.Growth]:=rfl
structure RangeX_commute where
 Low:Int
 High:Int
 Growth:(List Unit)
instance:Rep RangeX_commute where
 n:=3
 rep:=fun g x cs=>∃ v1:Value,cs=[.int .i64 x.Low,.int .i64 x.High,v1]∧RepH g x.Growth v1
 len:=fun h=>by obtain ⟨v1,rfl,h1⟩:=h;rfl
 mono:=fun hl h=>by obtain ⟨v1,h,h1⟩:=h;exact ⟨v1,h,h1.mono hl⟩
 one:=fun h=>by obtain ⟨v1,rfl,h1⟩:=h;exact Ba rfl (Ba rfl (Ba h1.one (E0)))
theorem Mg {g:Gh} {x:RangeX_commute} {cs:List Value} (h:Rep.rep g x cs):∃ v1:Value,cs=[.int .i64 x.Low,.int .i64 x.High,v1]∧RepH g x.Growth v1:=h
theorem Oa {g:Gh} {x:RangeX_commute} {v1:Value} (h1:RepH g x.Growth v1):Rep.rep g x [.int .i64 x.Low,.int .i64 x.High,v1]:=⟨v1,rfl,h1⟩
def Nl (x:Range_commute):RangeX_commute:={ Low:=x.Low,High:=x.High,Growth:=[] }
theorem Xi {g:Gh} {x:Range_commute} {cs:List Value} (h:Rep.rep g x cs):Rep.rep g (Nl x) cs:=by obtain rfl:=rep_Range_commute h;exact Oa RepH.int
structure Chunk where
 Conflict:Bool
 Lines:(List ByteArray)
 Base:(List ByteArray)
 Left:(List ByteArray)
 Right:(List ByteArray)
instance:Rep Chunk where
 n:=5
 rep:=fun g x cs=>∃ v1 v2 v3 v4:Value,cs=[.bool x.Conflict,v1,v2,v3,v4]∧RepSl g x.Lines v1∧RepSl g x.Base v2∧RepSl g x.Left v3∧RepSl g x.Right v4
 len:=fun h=>by obtain ⟨v1,v2,v3,v4,rfl,h1,h2,h3,h4⟩:=h;rfl
 mono:=fun hl h=>by obtain ⟨v1,v2,v3,v4,h,h1,h2,h3,h4⟩:=h;exact ⟨v1,v2,v3,v4,h,h1.mono hl,h2.mono hl,h3.mono hl,h4.mono hl⟩
 one:=fun h=>by obtain ⟨v1,v2,v3,v4,rfl,h1,h2,h3,h4⟩:=h;exact Ba rfl (Ba h1.one (Ba h2.one (Ba h3.one (Ba h4.one (E0)))))
theorem rep_Chunk_mk {g:Gh} {x:Chunk} {v1:Value} {v2:Value} {v3:Value} {v4:Value} (h1:RepSl g x.Lines v1) (h2:RepSl g x.Base v2) (h3:RepSl g x.Left v3) (h4:RepSl g x.Right v4):Rep.rep g x [.bool x.Conflict,v1,v2,v3,v4]:=⟨v1,v2,v3,v4,rfl,h1,h2,h3,h4⟩
structure Merger_merge3 where
 out:(List Chunk)
instance:Rep Merger_merge3 where
 n:=1
 rep:=fun g x cs=>∃ v1:Value,cs=[v1]∧RepSl g x.out v1
 len:=fun h=>by obtain ⟨v1,rfl,h1⟩:=h;rfl
 mono:=fun hl h=>by obtain ⟨v1,h,h1⟩:=h;exact ⟨v1,h,h1.mono hl⟩
 one:=fun h=>by obtain ⟨v1,rfl,h1⟩:=h;exact Ba h1.one (E0)
theorem rep_Merger_merge3_mk {g:Gh} {x:Merger_merge3} {v1:Value} (h1:RepSl g x.out v1):Rep.rep g x [v1]:=⟨v1,rfl,h1⟩
instance:ORep Chunk where
 orep:=fun g x cs c=>∃ (v1:Value) (c1:Hl),∃ (v2:Value),∃ (v3:Value),∃ (v4:Value),cs=[.bool x.Conflict,v1,v2,v3,v4]∧c=(c1++[])∧OwnS g x.Lines v1 c1∧RepSl g x.Base v2∧RepSl g x.Left v3∧RepSl g x.Right v4
 olen:=fun h=>by obtain ⟨v1,c1,v2,v3,v4,rfl,rfl,h1,h2,h3,h4⟩:=h;rfl
 omono:=fun hl h=>by obtain ⟨v1,c1,v2,v3,v4,hc,hd,h1,h2,h3,h4⟩:=h;exact ⟨v1,c1,v2,v3,v4,hc,hd,h1.mono hl,h2.mono hl,h3.mono hl,h4.mono hl⟩
 oone:=fun h=>by obtain ⟨v1,c1,v2,v3,v4,rfl,rfl,h1,h2,h3,h4⟩:=h;exact Ba rfl (Ba h1.one (Ba h2.one (Ba h3.one (Ba h4.one (E0)))))
 ofz:=fun hl hf h=>by obtain ⟨v1,c1,v2,v3,v4,rfl,rfl,h1,h2,h3,h4⟩:=h;exact ⟨v1,v2,v3,v4,rfl,h1.fz hl hf.left,h2.mono hl,h3.mono hl,h4.mono hl⟩
theorem orep_Chunk {g:Gh} {x:Chunk} {cs:List Value} {c:Hl} (h:ORep.orep g x cs c):∃ (v1:Value) (c1:Hl),∃ (v2:Value),∃ (v3:Value),∃ (v4:Value),cs=[.bool x.Conflict,v1,v2,v3,v4]∧c=(c1++[])∧OwnS g x.Lines v1 c1∧RepSl g x.Base v2∧RepSl g x.Left v3∧RepSl g x.Right v4:=h
theorem Abb {g:Gh} {x:Chunk} {v1:Value} {c1:Hl} {v2:Value} {v3:Value} {v4:Value} (h1:OwnS g x.Lines v1 c1) (h2:RepSl g x.Base v2) (h3:RepSl g x.Left v3) (h4:RepSl g x.Right v4):ORep.orep g x [.bool x.Conflict,v1,v2,v3,v4] (c1++[]):=⟨v1,c1,v2,v3,v4,rfl,rfl,h1,h2,h3,h4⟩
structure Arr2_Int where
 e0:Int
 e1:Int
instance:Rep Arr2_Int where
 n:=2
 rep:=fun g x cs=>cs=[.int .i64 x.e0,.int .i64 x.e1]
 len:=fun h=>by obtain rfl:=h;rfl
 mono:=fun hl h=>by obtain h:=h;exact h
 one:=fun h=>by obtain rfl:=h;exact Ba rfl (Ba rfl (E0))
theorem rep_Arr2_Int_mk {g:Gh} {x:Arr2_Int}:Rep.rep g x [.int .i64 x.e0,.int .i64 x.e1]:=rfl
structure Step_changeforgeref1 where
 Kind:Int
 Text:ByteArray
instance:Rep Step_changeforgeref1 where
 n:=2
 rep:=fun g x cs=>cs=[.int .i64 x.Kind,.string x.Text]
 len:=fun h=>by obtain rfl:=h;rfl
 mono:=fun hl h=>by obtain h:=h;exact h
 one:=fun h=>by obtain rfl:=h;exact Ba rfl (Ba rfl (E0))
theorem Na {g:Gh} {x:Step_changeforgeref1} {cs:List Value} (h:Rep.rep g x cs):cs=[.int .i64 x.Kind,.string x.Text]:=h
theorem Za {g:Gh} {x:Step_changeforgeref1}:Rep.rep g x [.int .i64 x.Kind,.string x.Text]:=rfl
structure Letter_changeforgeref2 where
 User:Int
 Number:Int
 Base:Int
 Signature:Int
 Right:Int
 Patch:TreePatch
instance:Rep Letter_changeforgeref2 where
 n:=6
 rep:=fun g x cs=>∃ v1:Value,cs=[.int .i64 x.User,.int .i64 x.Number,.int .i64 x.Base,.int .i64 x.Signature,.int .i64 x.Right,v1]∧RepSl g x.Patch.Changes v1
 len:=fun h=>by obtain ⟨v1,rfl,h1⟩:=h;rfl
 mono:=fun hl h=>by obtain ⟨v1,h,h1⟩:=h;exact ⟨v1,h,h1.mono hl⟩
 one:=fun h=>by obtain ⟨v1,rfl,h1⟩:=h;exact Ba rfl (Ba rfl (Ba rfl (Ba rfl (Ba rfl (Ba h1.one (E0))))))
theorem X6 {g:Gh} {x:Letter_changeforgeref2} {v1:Value} (h1:RepSl g x.Patch.Changes v1):Rep.rep g x [.int .i64 x.User,.int .i64 x.Number,.int .i64 x.Base,.int .i64 x.Signature,.int .i64 x.Right,v1]:=⟨v1,rfl,h1⟩
structure Forge_changeforgeref2 where
 Versions:(List FileTree)
 Log:(List ForgeEntry)
 Last:(List Int)
 Base:(List Int)
 Sent:(List Int)
 Working:(List FileTree)
 Flight:(List Letter_changeforgeref2)
instance:Rep Forge_changeforgeref2 where
 n:=7
 rep:=fun g x cs=>∃ v1 v2 v3 v4 v5 v6 v7:Value,cs=[v1,v2,v3,v4,v5,v6,v7]∧RepSl g x.Versions v1∧RepSl g x.Log v2∧RepSl g x.Last v3∧RepSl g x.Base v4∧RepSl g x.Sent v5∧RepSl g x.Working v6∧RepSl g x.Flight v7
 len:=fun h=>by obtain ⟨v1,v2,v3,v4,v5,v6,v7,rfl,h1,h2,h3,h4,h5,h6,h7⟩:=h;rfl
 mono:=fun hl h=>by obtain ⟨v1,v2,v3,v4,v5,v6,v7,h,h1,h2,h3,h4,h5,h6,h7⟩:=h;exact ⟨v1,v2,v3,v4,v5,v6,v7,h,h1.mono hl,h2.mono hl,h3.mono hl,h4.mono hl,h5.mono hl,h6.mono hl,h7.mono hl⟩
 one:=fun h=>by obtain ⟨v1,v2,v3,v4,v5,v6,v7,rfl,h1,h2,h3,h4,h5,h6,h7⟩:=h;exact Ba h1.one (Ba h2.one (Ba h3.one (Ba h4.one (Ba h5.one (Ba h6.one (Ba h7.one (E0)))))))
theorem Ys {g:Gh} {x:Forge_changeforgeref2} {v1:Value} {v2:Value} {v3:Value} {v4:Value} {v5:Value} {v6:Value} {v7:Value} (h1:RepSl g x.Versions v1) (h2:RepSl g x.Log v2) (h3:RepSl g x.Last v3) (h4:RepSl g x.Base v4) (h5:RepSl g x.Sent v5) (h6:RepSl g x.Working v6) (h7:RepSl g x.Flight v7):Rep.rep g x [v1,v2,v3,v4,v5,v6,v7]:=⟨v1,v2,v3,v4,v5,v6,v7,rfl,h1,h2,h3,h4,h5,h6,h7⟩
abbrev A7:=List Hunk
abbrev Ap:=List TreeChange
abbrev Ai:=List File
abbrev Ea:=List FileTree
abbrev Kd:=List Developer_forge
abbrev Em:=List Message_forge
abbrev D2:=List ForgeEntry
abbrev Bo:=List Chunk
abbrev Dx:=List Letter_changeforgeref2
abbrev Cx:=List ForgeEvent
abbrev Kl:=List Range_commute
abbrev Gf:=List RangeX_commute
abbrev Bq:=List Arr2_Int
abbrev C6:=List Step_changeforgeref1
end Go.Dc
