import Derived.Test.YtmmegcjbdkaffaaGreatDoorDcZN
namespace Go.Dc
open Go
structure Fault where
  Code:Int
  Index:Int
instance:Rep Fault where
  n:=2
  rep:=fun g x cs=>cs=[.int .i64 x.Code,.int .i64 x.Index]
  len:=fun h=>by obtain rfl:=h;rfl
  mono:=fun hl h=>by obtain h:=h;exact h
  one:=fun h=>by obtain rfl:=h;exact Ag rfl (Ag rfl (A2))
structure Hunk where
  At:Int
  Old:(List ByteArray)
  New:(List ByteArray)
instance:Rep Hunk where
  n:=3
  rep:=fun g x cs=>∃ v1 v2:Value,cs=[.int .i64 x.At,v1,v2]∧RepSl g x.Old v1∧RepSl g x.New v2
  len:=fun h=>by obtain ⟨v1,v2,rfl,h1,h2⟩:=h;rfl
  mono:=fun hl h=>by obtain ⟨v1,v2,h,h1,h2⟩:=h;exact ⟨v1,v2,h,h1.mono hl,h2.mono hl⟩
  one:=fun h=>by obtain ⟨v1,v2,rfl,h1,h2⟩:=h;exact Ag rfl (Ag h1.one (Ag h2.one (A2)))
theorem Mi {g:Gh} {x:Hunk} {cs:List Value} (h:Rep.rep g x cs):∃ v1 v2:Value,cs=[.int .i64 x.At,v1,v2]∧RepSl g x.Old v1∧RepSl g x.New v2:=h
theorem rep_Hunk_mk {g:Gh} {x:Hunk} {v1:Value} {v2:Value} (h1:RepSl g x.Old v1) (h2:RepSl g x.New v2):Rep.rep g x [.int .i64 x.At,v1,v2]:=⟨v1,v2,rfl,h1,h2⟩
structure Patch where
  Hunks:(List Hunk)
instance:Rep Patch where
  n:=1
  rep:=fun g x cs=>∃ v1:Value,cs=[v1]∧RepSl g x.Hunks v1
  len:=fun h=>by obtain ⟨v1,rfl,h1⟩:=h;rfl
  mono:=fun hl h=>by obtain ⟨v1,h,h1⟩:=h;exact ⟨v1,h,h1.mono hl⟩
  one:=fun h=>by obtain ⟨v1,rfl,h1⟩:=h;exact Ag h1.one (A2)
theorem rep_Patch {g:Gh} {x:Patch} {cs:List Value} (h:Rep.rep g x cs):∃ v1:Value,cs=[v1]∧RepSl g x.Hunks v1:=h
theorem rep_Patch_mk {g:Gh} {x:Patch} {v1:Value} (h1:RepSl g x.Hunks v1):Rep.rep g x [v1]:=⟨v1,rfl,h1⟩
structure TreeChange where
  Kind:Int
  Path:ByteArray
  To:ByteArray
  Lines:(List ByteArray)
  Patch:Patch
instance:Rep TreeChange where
  n:=5
  rep:=fun g x cs=>∃ v1 v2:Value,cs=[.int .i64 x.Kind,.string x.Path,.string x.To,v1,v2]∧RepSl g x.Lines v1∧RepSl g x.Patch.Hunks v2
  len:=fun h=>by obtain ⟨v1,v2,rfl,h1,h2⟩:=h;rfl
  mono:=fun hl h=>by obtain ⟨v1,v2,h,h1,h2⟩:=h;exact ⟨v1,v2,h,h1.mono hl,h2.mono hl⟩
  one:=fun h=>by obtain ⟨v1,v2,rfl,h1,h2⟩:=h;exact Ag rfl (Ag rfl (Ag rfl (Ag h1.one (Ag h2.one (A2)))))
theorem K7 {g:Gh} {x:TreeChange} {cs:List Value} (h:Rep.rep g x cs):∃ v1 v2:Value,cs=[.int .i64 x.Kind,.string x.Path,.string x.To,v1,v2]∧RepSl g x.Lines v1∧RepSl g x.Patch.Hunks v2:=h
theorem Hs {g:Gh} {x:TreeChange} {v1:Value} {v2:Value} (h1:RepSl g x.Lines v1) (h2:RepSl g x.Patch.Hunks v2):Rep.rep g x [.int .i64 x.Kind,.string x.Path,.string x.To,v1,v2]:=⟨v1,v2,rfl,h1,h2⟩
structure TreePatch where
  Changes:(List TreeChange)
instance:Rep TreePatch where
  n:=1
  rep:=fun g x cs=>∃ v1:Value,cs=[v1]∧RepSl g x.Changes v1
  len:=fun h=>by obtain ⟨v1,rfl,h1⟩:=h;rfl
  mono:=fun hl h=>by obtain ⟨v1,h,h1⟩:=h;exact ⟨v1,h,h1.mono hl⟩
  one:=fun h=>by obtain ⟨v1,rfl,h1⟩:=h;exact Ag h1.one (A2)
theorem rep_TreePatch {g:Gh} {x:TreePatch} {cs:List Value} (h:Rep.rep g x cs):∃ v1:Value,cs=[v1]∧RepSl g x.Changes v1:=h
theorem rep_TreePatch_mk {g:Gh} {x:TreePatch} {v1:Value} (h1:RepSl g x.Changes v1):Rep.rep g x [v1]:=⟨v1,rfl,h1⟩
structure ForgeEvent where
  Kind:Int
  User:Int
  Key:Int
  N:Int
  Patch:TreePatch
instance:Rep ForgeEvent where
  n:=5
  rep:=fun g x cs=>∃ v1:Value,cs=[.int .i64 x.Kind,.int .i64 x.User,.int .i64 x.Key,.int .i64 x.N,v1]∧RepSl g x.Patch.Changes v1
  len:=fun h=>by obtain ⟨v1,rfl,h1⟩:=h;rfl
  mono:=fun hl h=>by obtain ⟨v1,h,h1⟩:=h;exact ⟨v1,h,h1.mono hl⟩
  one:=fun h=>by obtain ⟨v1,rfl,h1⟩:=h;exact Ag rfl (Ag rfl (Ag rfl (Ag rfl (Ag h1.one (A2)))))
theorem Hm {g:Gh} {x:ForgeEvent} {cs:List Value} (h:Rep.rep g x cs):∃ v1:Value,cs=[.int .i64 x.Kind,.int .i64 x.User,.int .i64 x.Key,.int .i64 x.N,v1]∧RepSl g x.Patch.Changes v1:=h
theorem D7 {g:Gh} {x:ForgeEvent} {v1:Value} (h1:RepSl g x.Patch.Changes v1):Rep.rep g x [.int .i64 x.Kind,.int .i64 x.User,.int .i64 x.Key,.int .i64 x.N,v1]:=⟨v1,rfl,h1⟩
structure File where
  Path:ByteArray
  Lines:(List ByteArray)
instance:Rep File where
  n:=2
  rep:=fun g x cs=>∃ v1:Value,cs=[.string x.Path,v1]∧RepSl g x.Lines v1
  len:=fun h=>by obtain ⟨v1,rfl,h1⟩:=h;rfl
  mono:=fun hl h=>by obtain ⟨v1,h,h1⟩:=h;exact ⟨v1,h,h1.mono hl⟩
  one:=fun h=>by obtain ⟨v1,rfl,h1⟩:=h;exact Ag rfl (Ag h1.one (A2))
theorem E8 {g:Gh} {x:File} {cs:List Value} (h:Rep.rep g x cs):∃ v1:Value,cs=[.string x.Path,v1]∧RepSl g x.Lines v1:=h
theorem M8 {g:Gh} {x:File} {v1:Value} (h1:RepSl g x.Lines v1):Rep.rep g x [.string x.Path,v1]:=⟨v1,rfl,h1⟩
structure FileTree where
  Files:(List File)
instance:Rep FileTree where
  n:=1
  rep:=fun g x cs=>∃ v1:Value,cs=[v1]∧RepSl g x.Files v1
  len:=fun h=>by obtain ⟨v1,rfl,h1⟩:=h;rfl
  mono:=fun hl h=>by obtain ⟨v1,h,h1⟩:=h;exact ⟨v1,h,h1.mono hl⟩
  one:=fun h=>by obtain ⟨v1,rfl,h1⟩:=h;exact Ag h1.one (A2)
theorem Nh {g:Gh} {x:FileTree} {cs:List Value} (h:Rep.rep g x cs):∃ v1:Value,cs=[v1]∧RepSl g x.Files v1:=h
theorem Ms {g:Gh} {x:FileTree} {v1:Value} (h1:RepSl g x.Files v1):Rep.rep g x [v1]:=⟨v1,rfl,h1⟩
structure Developer_forge where
  tree:FileTree
  base:Int
  sent:Int
  accepted:Int
instance:Rep Developer_forge where
  n:=4
  rep:=fun g x cs=>∃ v1:Value,cs=[v1,.int .i64 x.base,.int .i64 x.sent,.int .i64 x.accepted]∧RepSl g x.tree.Files v1
  len:=fun h=>by obtain ⟨v1,rfl,h1⟩:=h;rfl
  mono:=fun hl h=>by obtain ⟨v1,h,h1⟩:=h;exact ⟨v1,h,h1.mono hl⟩
  one:=fun h=>by obtain ⟨v1,rfl,h1⟩:=h;exact Ag h1.one (Ag rfl (Ag rfl (Ag rfl (A2))))
theorem Cw {g:Gh} {x:Developer_forge} {cs:List Value} (h:Rep.rep g x cs):∃ v1:Value,cs=[v1,.int .i64 x.base,.int .i64 x.sent,.int .i64 x.accepted]∧RepSl g x.tree.Files v1:=h
theorem E7 {g:Gh} {x:Developer_forge} {v1:Value} (h1:RepSl g x.tree.Files v1):Rep.rep g x [v1,.int .i64 x.base,.int .i64 x.sent,.int .i64 x.accepted]:=⟨v1,rfl,h1⟩
structure Message_forge where
  user:Int
  number:Int
  base:Int
  signature:Int
  patch:TreePatch
instance:Rep Message_forge where
  n:=5
  rep:=fun g x cs=>∃ v1:Value,cs=[.int .i64 x.user,.int .i64 x.number,.int .i64 x.base,.int .i64 x.signature,v1]∧RepSl g x.patch.Changes v1
  len:=fun h=>by obtain ⟨v1,rfl,h1⟩:=h;rfl
  mono:=fun hl h=>by obtain ⟨v1,h,h1⟩:=h;exact ⟨v1,h,h1.mono hl⟩
  one:=fun h=>by obtain ⟨v1,rfl,h1⟩:=h;exact Ag rfl (Ag rfl (Ag rfl (Ag rfl (Ag h1.one (A2)))))
theorem Ul {g:Gh} {x:Message_forge} {cs:List Value} (h:Rep.rep g x cs):∃ v1:Value,cs=[.int .i64 x.user,.int .i64 x.number,.int .i64 x.base,.int .i64 x.signature,v1]∧RepSl g x.patch.Changes v1:=h
theorem Lm {g:Gh} {x:Message_forge} {v1:Value} (h1:RepSl g x.patch.Changes v1):Rep.rep g x [.int .i64 x.user,.int .i64 x.number,.int .i64 x.base,.int .i64 x.signature,v1]:=⟨v1,rfl,h1⟩
structure ForgeEntry where
  User:Int
  Number:Int
  Patch:TreePatch
instance:Rep ForgeEntry where
  n:=3
  rep:=fun g x cs=>∃ v1:Value,cs=[.int .i64 x.User,.int .i64 x.Number,v1]∧RepSl g x.Patch.Changes v1
  len:=fun h=>by obtain ⟨v1,rfl,h1⟩:=h;rfl
  mono:=fun hl h=>by obtain ⟨v1,h,h1⟩:=h;exact ⟨v1,h,h1.mono hl⟩
  one:=fun h=>by obtain ⟨v1,rfl,h1⟩:=h;exact Ag rfl (Ag rfl (Ag h1.one (A2)))
theorem K6 {g:Gh} {x:ForgeEntry} {cs:List Value} (h:Rep.rep g x cs):∃ v1:Value,cs=[.int .i64 x.User,.int .i64 x.Number,v1]∧RepSl g x.Patch.Changes v1:=h
theorem Ug {g:Gh} {x:ForgeEntry} {v1:Value} (h1:RepSl g x.Patch.Changes v1):Rep.rep g x [.int .i64 x.User,.int .i64 x.Number,v1]:=⟨v1,rfl,h1⟩
structure State_forge where
  keys:(List Int)
  versions:(List FileTree)
  developers:(List Developer_forge)
  flight:(List Message_forge)
  log:(List ForgeEntry)
instance:Rep State_forge where
  n:=5
  rep:=fun g x cs=>∃ v1 v2 v3 v4 v5:Value,cs=[v1,v2,v3,v4,v5]∧RepSl g x.keys v1∧RepSl g x.versions v2∧RepSl g x.developers v3∧RepSl g x.flight v4∧RepSl g x.log v5
  len:=fun h=>by obtain ⟨v1,v2,v3,v4,v5,rfl,h1,h2,h3,h4,h5⟩:=h;rfl
  mono:=fun hl h=>by obtain ⟨v1,v2,v3,v4,v5,h,h1,h2,h3,h4,h5⟩:=h;exact ⟨v1,v2,v3,v4,v5,h,h1.mono hl,h2.mono hl,h3.mono hl,h4.mono hl,h5.mono hl⟩
  one:=fun h=>by obtain ⟨v1,v2,v3,v4,v5,rfl,h1,h2,h3,h4,h5⟩:=h;exact Ag h1.one (Ag h2.one (Ag h3.one (Ag h4.one (Ag h5.one (A2)))))
structure Collector_diff where
  hunks:(List Hunk)
  at_:Int
  open_:Bool
instance:Rep Collector_diff where
  n:=3
  rep:=fun g x cs=>∃ v1:Value,cs=[v1,.int .i64 x.at_,.bool x.open_]∧RepSl g x.hunks v1
  len:=fun h=>by obtain ⟨v1,rfl,h1⟩:=h;rfl
  mono:=fun hl h=>by obtain ⟨v1,h,h1⟩:=h;exact ⟨v1,h,h1.mono hl⟩
  one:=fun h=>by obtain ⟨v1,rfl,h1⟩:=h;exact Ag h1.one (Ag rfl (Ag rfl (A2)))
instance:ORep Hunk where
  orep:=fun g x cs c=>∃ (v1:Value) (c1:Hl),∃ (v2:Value) (c2:Hl),cs=[.int .i64 x.At,v1,v2]∧c=(c1++(c2++[]))∧OwnS g x.Old v1 c1∧OwnS g x.New v2 c2
  olen:=fun h=>by obtain ⟨v1,c1,v2,c2,rfl,rfl,h1,h2⟩:=h;rfl
  omono:=fun hl h=>by obtain ⟨v1,c1,v2,c2,hc,hd,h1,h2⟩:=h;exact ⟨v1,c1,v2,c2,hc,hd,h1.mono hl,h2.mono hl⟩
  oone:=fun h=>by obtain ⟨v1,c1,v2,c2,rfl,rfl,h1,h2⟩:=h;exact Ag rfl (Ag h1.one (Ag h2.one (A2)))
  ofz:=fun hl hf h=>by obtain ⟨v1,c1,v2,c2,rfl,rfl,h1,h2⟩:=h;exact ⟨v1,v2,rfl,h1.fz hl hf.left,h2.fz hl hf.right.left⟩
theorem orep_Hunk {g:Gh} {x:Hunk} {cs:List Value} {c:Hl} (h:ORep.orep g x cs c):∃ (v1:Value) (c1:Hl),∃ (v2:Value) (c2:Hl),cs=[.int .i64 x.At,v1,v2]∧c=(c1++(c2++[]))∧OwnS g x.Old v1 c1∧OwnS g x.New v2 c2:=h
theorem Tl {g:Gh} {x:Hunk} {v1:Value} {c1:Hl} {v2:Value} {c2:Hl} (h1:OwnS g x.Old v1 c1) (h2:OwnS g x.New v2 c2):ORep.orep g x [.int .i64 x.At,v1,v2] (c1++(c2++[])):=⟨v1,c1,v2,c2,rfl,rfl,h1,h2⟩
structure Step_digest where
  e0:Int
  e1:Int
instance:Rep Step_digest where
  n:=2
  rep:=fun g x cs=>cs=[.int .i64 x.e0,.int .i64 x.e1]
  len:=fun h=>by obtain rfl:=h;rfl
  mono:=fun hl h=>by obtain h:=h;exact h
  one:=fun h=>by obtain rfl:=h;exact Ag rfl (Ag rfl (A2))
structure Version_treecommute where
  is:Bool
  lines:(List ByteArray)
instance:Rep Version_treecommute where
  n:=2
  rep:=fun g x cs=>∃ v1:Value,cs=[.bool x.is,v1]∧RepSl g x.lines v1
  len:=fun h=>by obtain ⟨v1,rfl,h1⟩:=h;rfl
  mono:=fun hl h=>by obtain ⟨v1,h,h1⟩:=h;exact ⟨v1,h,h1.mono hl⟩
  one:=fun h=>by obtain ⟨v1,rfl,h1⟩:=h;exact Ag rfl (Ag h1.one (A2))
structure Range_commute where
  Low:Int
  High:Int
  Growth:Int
instance:Rep Range_commute where
  n:=3
  rep:=fun g x cs=>cs=[.int .i64 x.Low,.int .i64 x.High,.int .i64 x.Growth]
  len:=fun h=>by obtain rfl:=h;rfl
  mono:=fun hl h=>by obtain h:=h;exact h
  one:=fun h=>by obtain rfl:=h;exact Ag rfl (Ag rfl (Ag rfl (A2)))
theorem rep_Range_commute {g:Gh} {x:Range_commute} {cs:List Value} (h:Rep.rep g x cs):cs=[.int .i64 x.Low,.int .i64 x.High,.int .i64 x.Growth]:=h
theorem rep_Range_commute_mk {g:Gh} {x:Range_commute}:Rep.rep g x [.int .i64 x.Low,.int .i64 x.High,.int .i64 x.Growth]:=rfl
structure RangeX_commute where
  Low:Int
  High:Int
  Growth:(List Unit)
instance:Rep RangeX_commute where
  n:=3
  rep:=fun g x cs=>∃ v1:Value,cs=[.int .i64 x.Low,.int .i64 x.High,v1]∧RepH g x.Growth v1
  len:=fun h=>by obtain ⟨v1,rfl,h1⟩:=h;rfl
  mono:=fun hl h=>by obtain ⟨v1,h,h1⟩:=h;exact ⟨v1,h,h1.mono hl⟩
  one:=fun h=>by obtain ⟨v1,rfl,h1⟩:=h;exact Ag rfl (Ag rfl (Ag h1.one (A2)))
theorem G9 {g:Gh} {x:RangeX_commute} {cs:List Value} (h:Rep.rep g x cs):∃ v1:Value,cs=[.int .i64 x.Low,.int .i64 x.High,v1]∧RepH g x.Growth v1:=h
theorem My {g:Gh} {x:RangeX_commute} {v1:Value} (h1:RepH g x.Growth v1):Rep.rep g x [.int .i64 x.Low,.int .i64 x.High,v1]:=⟨v1,rfl,h1⟩
def Kh (x:Range_commute):RangeX_commute:={ Low:=x.Low,High:=x.High,Growth:=[] }
theorem O2 {g:Gh} {x:Range_commute} {cs:List Value} (h:Rep.rep g x cs):Rep.rep g (Kh x) cs:=by obtain rfl:=rep_Range_commute h;exact My RepH.int
structure Chunk where
  Conflict:Bool
  Lines:(List ByteArray)
  Base:(List ByteArray)
  Left:(List ByteArray)
  Right:(List ByteArray)
instance:Rep Chunk where
  n:=5
  rep:=fun g x cs=>∃ v1 v2 v3 v4:Value,cs=[.bool x.Conflict,v1,v2,v3,v4]∧RepSl g x.Lines v1∧RepSl g x.Base v2∧RepSl g x.Left v3∧RepSl g x.Right v4
  len:=fun h=>by obtain ⟨v1,v2,v3,v4,rfl,h1,h2,h3,h4⟩:=h;rfl
  mono:=fun hl h=>by obtain ⟨v1,v2,v3,v4,h,h1,h2,h3,h4⟩:=h;exact ⟨v1,v2,v3,v4,h,h1.mono hl,h2.mono hl,h3.mono hl,h4.mono hl⟩
  one:=fun h=>by obtain ⟨v1,v2,v3,v4,rfl,h1,h2,h3,h4⟩:=h;exact Ag rfl (Ag h1.one (Ag h2.one (Ag h3.one (Ag h4.one (A2)))))
theorem rep_Chunk {g:Gh} {x:Chunk} {cs:List Value} (h:Rep.rep g x cs):∃ v1 v2 v3 v4:Value,cs=[.bool x.Conflict,v1,v2,v3,v4]∧RepSl g x.Lines v1∧RepSl g x.Base v2∧RepSl g x.Left v3∧RepSl g x.Right v4:=h
structure Merger_merge3 where
  out:(List Chunk)
instance:Rep Merger_merge3 where
  n:=1
  rep:=fun g x cs=>∃ v1:Value,cs=[v1]∧RepSl g x.out v1
  len:=fun h=>by obtain ⟨v1,rfl,h1⟩:=h;rfl
  mono:=fun hl h=>by obtain ⟨v1,h,h1⟩:=h;exact ⟨v1,h,h1.mono hl⟩
  one:=fun h=>by obtain ⟨v1,rfl,h1⟩:=h;exact Ag h1.one (A2)
instance:ORep Chunk where
  orep:=fun g x cs c=>∃ (v1:Value) (c1:Hl),∃ (v2:Value),∃ (v3:Value),∃ (v4:Value),cs=[.bool x.Conflict,v1,v2,v3,v4]∧c=(c1++[])∧OwnS g x.Lines v1 c1∧RepSl g x.Base v2∧RepSl g x.Left v3∧RepSl g x.Right v4
  olen:=fun h=>by obtain ⟨v1,c1,v2,v3,v4,rfl,rfl,h1,h2,h3,h4⟩:=h;rfl
  omono:=fun hl h=>by obtain ⟨v1,c1,v2,v3,v4,hc,hd,h1,h2,h3,h4⟩:=h;exact ⟨v1,c1,v2,v3,v4,hc,hd,h1.mono hl,h2.mono hl,h3.mono hl,h4.mono hl⟩
  oone:=fun h=>by obtain ⟨v1,c1,v2,v3,v4,rfl,rfl,h1,h2,h3,h4⟩:=h;exact Ag rfl (Ag h1.one (Ag h2.one (Ag h3.one (Ag h4.one (A2)))))
  ofz:=fun hl hf h=>by obtain ⟨v1,c1,v2,v3,v4,rfl,rfl,h1,h2,h3,h4⟩:=h;exact ⟨v1,v2,v3,v4,rfl,h1.fz hl hf.left,h2.mono hl,h3.mono hl,h4.mono hl⟩
theorem orep_Chunk {g:Gh} {x:Chunk} {cs:List Value} {c:Hl} (h:ORep.orep g x cs c):∃ (v1:Value) (c1:Hl),∃ (v2:Value),∃ (v3:Value),∃ (v4:Value),cs=[.bool x.Conflict,v1,v2,v3,v4]∧c=(c1++[])∧OwnS g x.Lines v1 c1∧RepSl g x.Base v2∧RepSl g x.Left v3∧RepSl g x.Right v4:=h
theorem Us {g:Gh} {x:Chunk} {v1:Value} {c1:Hl} {v2:Value} {v3:Value} {v4:Value} (h1:OwnS g x.Lines v1 c1) (h2:RepSl g x.Base v2) (h3:RepSl g x.Left v3) (h4:RepSl g x.Right v4):ORep.orep g x [.bool x.Conflict,v1,v2,v3,v4] (c1++[]):=⟨v1,c1,v2,v3,v4,rfl,rfl,h1,h2,h3,h4⟩
structure Arr2_Int where
  e0:Int
  e1:Int
instance:Rep Arr2_Int where
  n:=2
  rep:=fun g x cs=>cs=[.int .i64 x.e0,.int .i64 x.e1]
  len:=fun h=>by obtain rfl:=h;rfl
  mono:=fun hl h=>by obtain h:=h;exact h
  one:=fun h=>by obtain rfl:=h;exact Ag rfl (Ag rfl (A2))
theorem rep_Arr2_Int_mk {g:Gh} {x:Arr2_Int}:Rep.rep g x [.int .i64 x.e0,.int .i64 x.e1]:=rfl
end Go.Dc
