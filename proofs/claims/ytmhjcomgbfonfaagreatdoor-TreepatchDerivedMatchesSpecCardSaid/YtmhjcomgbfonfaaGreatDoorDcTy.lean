import Derived.Test.YtmhjcomgbfonfaaGreatDoorDcZ
namespace Go.Dc
open Go
structure Fault where
  Code:Int
  Index:Int
instance:Rep Fault where
  n:=2
  rep:=fun g x cs=>cs=[.int .i64 x.Code,.int .i64 x.Index]
  len:=fun h=>by obtain rfl:=h;rfl
  mono:=fun hl h=>by obtain h:=h;exact h
  one:=fun h=>by obtain rfl:=h;exact Aj rfl (Aj rfl (Ap))
structure Hunk where
  At:Int
  Old:(List ByteArray)
  New:(List ByteArray)
instance:Rep Hunk where
  n:=3
  rep:=fun g x cs=>∃ v1 v2:Value,cs=[.int .i64 x.At,v1,v2]∧RepSl g x.Old v1∧RepSl g x.New v2
  len:=fun h=>by obtain ⟨v1,v2,rfl,h1,h2⟩:=h;rfl
  mono:=fun hl h=>by obtain ⟨v1,v2,h,h1,h2⟩:=h;exact ⟨v1,v2,h,h1.mono hl,h2.mono hl⟩
  one:=fun h=>by obtain ⟨v1,v2,rfl,h1,h2⟩:=h;exact Aj rfl (Aj h1.one (Aj h2.one (Ap)))
theorem Et {g:Gh} {x:Hunk} {cs:List Value} (h:Rep.rep g x cs):∃ v1 v2:Value,cs=[.int .i64 x.At,v1,v2]∧RepSl g x.Old v1∧RepSl g x.New v2:=h
theorem L6 {g:Gh} {x:Hunk} {v1:Value} {v2:Value} (h1:RepSl g x.Old v1) (h2:RepSl g x.New v2):Rep.rep g x [.int .i64 x.At,v1,v2]:=⟨v1,v2,rfl,h1,h2⟩
structure Patch where
  Hunks:(List Hunk)
instance:Rep Patch where
  n:=1
  rep:=fun g x cs=>∃ v1:Value,cs=[v1]∧RepSl g x.Hunks v1
  len:=fun h=>by obtain ⟨v1,rfl,h1⟩:=h;rfl
  mono:=fun hl h=>by obtain ⟨v1,h,h1⟩:=h;exact ⟨v1,h,h1.mono hl⟩
  one:=fun h=>by obtain ⟨v1,rfl,h1⟩:=h;exact Aj h1.one (Ap)
theorem rep_Patch {g:Gh} {x:Patch} {cs:List Value} (h:Rep.rep g x cs):∃ v1:Value,cs=[v1]∧RepSl g x.Hunks v1:=h
theorem rep_Patch_mk {g:Gh} {x:Patch} {v1:Value} (h1:RepSl g x.Hunks v1):Rep.rep g x [v1]:=⟨v1,rfl,h1⟩
structure TreeChange where
  Kind:Int
  Path:ByteArray
  To:ByteArray
  Lines:(List ByteArray)
  Patch:Patch
instance:Rep TreeChange where
  n:=5
  rep:=fun g x cs=>∃ v1 v2:Value,cs=[.int .i64 x.Kind,.string x.Path,.string x.To,v1,v2]∧RepSl g x.Lines v1∧RepSl g x.Patch.Hunks v2
  len:=fun h=>by obtain ⟨v1,v2,rfl,h1,h2⟩:=h;rfl
  mono:=fun hl h=>by obtain ⟨v1,v2,h,h1,h2⟩:=h;exact ⟨v1,v2,h,h1.mono hl,h2.mono hl⟩
  one:=fun h=>by obtain ⟨v1,v2,rfl,h1,h2⟩:=h;exact Aj rfl (Aj rfl (Aj rfl (Aj h1.one (Aj h2.one (Ap)))))
theorem Ho {g:Gh} {x:TreeChange} {cs:List Value} (h:Rep.rep g x cs):∃ v1 v2:Value,cs=[.int .i64 x.Kind,.string x.Path,.string x.To,v1,v2]∧RepSl g x.Lines v1∧RepSl g x.Patch.Hunks v2:=h
theorem D2 {g:Gh} {x:TreeChange} {v1:Value} {v2:Value} (h1:RepSl g x.Lines v1) (h2:RepSl g x.Patch.Hunks v2):Rep.rep g x [.int .i64 x.Kind,.string x.Path,.string x.To,v1,v2]:=⟨v1,v2,rfl,h1,h2⟩
structure TreePatch where
  Changes:(List TreeChange)
instance:Rep TreePatch where
  n:=1
  rep:=fun g x cs=>∃ v1:Value,cs=[v1]∧RepSl g x.Changes v1
  len:=fun h=>by obtain ⟨v1,rfl,h1⟩:=h;rfl
  mono:=fun hl h=>by obtain ⟨v1,h,h1⟩:=h;exact ⟨v1,h,h1.mono hl⟩
  one:=fun h=>by obtain ⟨v1,rfl,h1⟩:=h;exact Aj h1.one (Ap)
theorem rep_TreePatch {g:Gh} {x:TreePatch} {cs:List Value} (h:Rep.rep g x cs):∃ v1:Value,cs=[v1]∧RepSl g x.Changes v1:=h
theorem rep_TreePatch_mk {g:Gh} {x:TreePatch} {v1:Value} (h1:RepSl g x.Changes v1):Rep.rep g x [v1]:=⟨v1,rfl,h1⟩
structure File where
  Path:ByteArray
  Lines:(List ByteArray)
instance:Rep File where
  n:=2
  rep:=fun g x cs=>∃ v1:Value,cs=[.string x.Path,v1]∧RepSl g x.Lines v1
  len:=fun h=>by obtain ⟨v1,rfl,h1⟩:=h;rfl
  mono:=fun hl h=>by obtain ⟨v1,h,h1⟩:=h;exact ⟨v1,h,h1.mono hl⟩
  one:=fun h=>by obtain ⟨v1,rfl,h1⟩:=h;exact Aj rfl (Aj h1.one (Ap))
theorem Dr {g:Gh} {x:File} {cs:List Value} (h:Rep.rep g x cs):∃ v1:Value,cs=[.string x.Path,v1]∧RepSl g x.Lines v1:=h
theorem Kx {g:Gh} {x:File} {v1:Value} (h1:RepSl g x.Lines v1):Rep.rep g x [.string x.Path,v1]:=⟨v1,rfl,h1⟩
structure FileTree where
  Files:(List File)
instance:Rep FileTree where
  n:=1
  rep:=fun g x cs=>∃ v1:Value,cs=[v1]∧RepSl g x.Files v1
  len:=fun h=>by obtain ⟨v1,rfl,h1⟩:=h;rfl
  mono:=fun hl h=>by obtain ⟨v1,h,h1⟩:=h;exact ⟨v1,h,h1.mono hl⟩
  one:=fun h=>by obtain ⟨v1,rfl,h1⟩:=h;exact Aj h1.one (Ap)
theorem rep_FileTree {g:Gh} {x:FileTree} {cs:List Value} (h:Rep.rep g x cs):∃ v1:Value,cs=[v1]∧RepSl g x.Files v1:=h
theorem rep_FileTree_mk {g:Gh} {x:FileTree} {v1:Value} (h1:RepSl g x.Files v1):Rep.rep g x [v1]:=⟨v1,rfl,h1⟩
structure Version_treecommute where
  is:Bool
  lines:(List ByteArray)
instance:Rep Version_treecommute where
  n:=2
  rep:=fun g x cs=>∃ v1:Value,cs=[.bool x.is,v1]∧RepSl g x.lines v1
  len:=fun h=>by obtain ⟨v1,rfl,h1⟩:=h;rfl
  mono:=fun hl h=>by obtain ⟨v1,h,h1⟩:=h;exact ⟨v1,h,h1.mono hl⟩
  one:=fun h=>by obtain ⟨v1,rfl,h1⟩:=h;exact Aj rfl (Aj h1.one (Ap))
structure Collector_diff where
  hunks:(List Hunk)
  at_:Int
  open_:Bool
instance:Rep Collector_diff where
  n:=3
  rep:=fun g x cs=>∃ v1:Value,cs=[v1,.int .i64 x.at_,.bool x.open_]∧RepSl g x.hunks v1
  len:=fun h=>by obtain ⟨v1,rfl,h1⟩:=h;rfl
  mono:=fun hl h=>by obtain ⟨v1,h,h1⟩:=h;exact ⟨v1,h,h1.mono hl⟩
  one:=fun h=>by obtain ⟨v1,rfl,h1⟩:=h;exact Aj h1.one (Aj rfl (Aj rfl (Ap)))
instance:ORep Hunk where
  orep:=fun g x cs c=>∃ (v1:Value) (c1:Hl),∃ (v2:Value) (c2:Hl),cs=[.int .i64 x.At,v1,v2]∧c=(c1++(c2++[]))∧OwnS g x.Old v1 c1∧OwnS g x.New v2 c2
  olen:=fun h=>by obtain ⟨v1,c1,v2,c2,rfl,rfl,h1,h2⟩:=h;rfl
  omono:=fun hl h=>by obtain ⟨v1,c1,v2,c2,hc,hd,h1,h2⟩:=h;exact ⟨v1,c1,v2,c2,hc,hd,h1.mono hl,h2.mono hl⟩
  oone:=fun h=>by obtain ⟨v1,c1,v2,c2,rfl,rfl,h1,h2⟩:=h;exact Aj rfl (Aj h1.one (Aj h2.one (Ap)))
  ofz:=fun hl hf h=>by obtain ⟨v1,c1,v2,c2,rfl,rfl,h1,h2⟩:=h;exact ⟨v1,v2,rfl,h1.fz hl hf.left,h2.fz hl hf.right.left⟩
theorem orep_Hunk {g:Gh} {x:Hunk} {cs:List Value} {c:Hl} (h:ORep.orep g x cs c):∃ (v1:Value) (c1:Hl),∃ (v2:Value) (c2:Hl),cs=[.int .i64 x.At,v1,v2]∧c=(c1++(c2++[]))∧OwnS g x.Old v1 c1∧OwnS g x.New v2 c2:=h
theorem Kg {g:Gh} {x:Hunk} {v1:Value} {c1:Hl} {v2:Value} {c2:Hl} (h1:OwnS g x.Old v1 c1) (h2:OwnS g x.New v2 c2):ORep.orep g x [.int .i64 x.At,v1,v2] (c1++(c2++[])):=⟨v1,c1,v2,c2,rfl,rfl,h1,h2⟩
structure Range_commute where
  Low:Int
  High:Int
  Growth:Int
instance:Rep Range_commute where
  n:=3
  rep:=fun g x cs=>cs=[.int .i64 x.Low,.int .i64 x.High,.int .i64 x.Growth]
  len:=fun h=>by obtain rfl:=h;rfl
  mono:=fun hl h=>by obtain h:=h;exact h
  one:=fun h=>by obtain rfl:=h;exact Aj rfl (Aj rfl (Aj rfl (Ap)))
structure RangeX_commute where
  Low:Int
  High:Int
  Growth:(List Unit)
instance:Rep RangeX_commute where
  n:=3
  rep:=fun g x cs=>∃ v1:Value,cs=[.int .i64 x.Low,.int .i64 x.High,v1]∧RepH g x.Growth v1
  len:=fun h=>by obtain ⟨v1,rfl,h1⟩:=h;rfl
  mono:=fun hl h=>by obtain ⟨v1,h,h1⟩:=h;exact ⟨v1,h,h1.mono hl⟩
  one:=fun h=>by obtain ⟨v1,rfl,h1⟩:=h;exact Aj rfl (Aj rfl (Aj h1.one (Ap)))
structure Chunk where
  Conflict:Bool
  Lines:(List ByteArray)
  Base:(List ByteArray)
  Left:(List ByteArray)
  Right:(List ByteArray)
instance:Rep Chunk where
  n:=5
  rep:=fun g x cs=>∃ v1 v2 v3 v4:Value,cs=[.bool x.Conflict,v1,v2,v3,v4]∧RepSl g x.Lines v1∧RepSl g x.Base v2∧RepSl g x.Left v3∧RepSl g x.Right v4
  len:=fun h=>by obtain ⟨v1,v2,v3,v4,rfl,h1,h2,h3,h4⟩:=h;rfl
  mono:=fun hl h=>by obtain ⟨v1,v2,v3,v4,h,h1,h2,h3,h4⟩:=h;exact ⟨v1,v2,v3,v4,h,h1.mono hl,h2.mono hl,h3.mono hl,h4.mono hl⟩
  one:=fun h=>by obtain ⟨v1,v2,v3,v4,rfl,h1,h2,h3,h4⟩:=h;exact Aj rfl (Aj h1.one (Aj h2.one (Aj h3.one (Aj h4.one (Ap)))))
structure Merger_merge3 where
  out:(List Chunk)
instance:Rep Merger_merge3 where
  n:=1
  rep:=fun g x cs=>∃ v1:Value,cs=[v1]∧RepSl g x.out v1
  len:=fun h=>by obtain ⟨v1,rfl,h1⟩:=h;rfl
  mono:=fun hl h=>by obtain ⟨v1,h,h1⟩:=h;exact ⟨v1,h,h1.mono hl⟩
  one:=fun h=>by obtain ⟨v1,rfl,h1⟩:=h;exact Aj h1.one (Ap)
instance:ORep Chunk where
  orep:=fun g x cs c=>∃ (v1:Value) (c1:Hl),∃ (v2:Value),∃ (v3:Value),∃ (v4:Value),cs=[.bool x.Conflict,v1,v2,v3,v4]∧c=(c1++[])∧OwnS g x.Lines v1 c1∧RepSl g x.Base v2∧RepSl g x.Left v3∧RepSl g x.Right v4
  olen:=fun h=>by obtain ⟨v1,c1,v2,v3,v4,rfl,rfl,h1,h2,h3,h4⟩:=h;rfl
  omono:=fun hl h=>by obtain ⟨v1,c1,v2,v3,v4,hc,hd,h1,h2,h3,h4⟩:=h;exact ⟨v1,c1,v2,v3,v4,hc,hd,h1.mono hl,h2.mono hl,h3.mono hl,h4.mono hl⟩
  oone:=fun h=>by obtain ⟨v1,c1,v2,v3,v4,rfl,rfl,h1,h2,h3,h4⟩:=h;exact Aj rfl (Aj h1.one (Aj h2.one (Aj h3.one (Aj h4.one (Ap)))))
  ofz:=fun hl hf h=>by obtain ⟨v1,c1,v2,v3,v4,rfl,rfl,h1,h2,h3,h4⟩:=h;exact ⟨v1,v2,v3,v4,rfl,h1.fz hl hf.left,h2.mono hl,h3.mono hl,h4.mono hl⟩
structure Arr2_Int where
  e0:Int
  e1:Int
instance:Rep Arr2_Int where
  n:=2
  rep:=fun g x cs=>cs=[.int .i64 x.e0,.int .i64 x.e1]
  len:=fun h=>by obtain rfl:=h;rfl
  mono:=fun hl h=>by obtain h:=h;exact h
  one:=fun h=>by obtain rfl:=h;exact Aj rfl (Aj rfl (Ap))
structure Step_changeforgeref1 where
  Kind:Int
  Text:ByteArray
instance:Rep Step_changeforgeref1 where
  n:=2
  rep:=fun g x cs=>cs=[.int .i64 x.Kind,.string x.Text]
  len:=fun h=>by obtain rfl:=h;rfl
  mono:=fun hl h=>by obtain h:=h;exact h
  one:=fun h=>by obtain rfl:=h;exact Aj rfl (Aj rfl (Ap))
theorem Gw {g:Gh} {x:Step_changeforgeref1} {cs:List Value} (h:Rep.rep g x cs):cs=[.int .i64 x.Kind,.string x.Text]:=h
theorem Hi {g:Gh} {x:Step_changeforgeref1}:Rep.rep g x [.int .i64 x.Kind,.string x.Text]:=rfl
structure Pair_rename where
  old_:ByteArray
  newer:ByteArray
  percent:Int
instance:Rep Pair_rename where
  n:=3
  rep:=fun g x cs=>cs=[.string x.old_,.string x.newer,.int .i64 x.percent]
  len:=fun h=>by obtain rfl:=h;rfl
  mono:=fun hl h=>by obtain h:=h;exact h
  one:=fun h=>by obtain rfl:=h;exact Aj rfl (Aj rfl (Aj rfl (Ap)))
structure Arr2_ByteArray where
  e0:ByteArray
  e1:ByteArray
instance:Rep Arr2_ByteArray where
  n:=2
  rep:=fun g x cs=>cs=[.string x.e0,.string x.e1]
  len:=fun h=>by obtain rfl:=h;rfl
  mono:=fun hl h=>by obtain h:=h;exact h
  one:=fun h=>by obtain rfl:=h;exact Aj rfl (Aj rfl (Ap))
end Go.Dc
