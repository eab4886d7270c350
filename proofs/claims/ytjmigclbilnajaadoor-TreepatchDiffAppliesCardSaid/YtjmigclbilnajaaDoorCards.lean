/-
  DERIVED. GIVEN WITH THE SEED: THE CARDS: each row of YtjmigclbilnajaaDoorRows.lean that lists a variable, with what it lists TIED to the program's text (the seventh form; the later family's looks); each row that meets fmt, with fmt's text TOLD by the authors' own Lean function (tested against real Go, not proved from fmt's source: count such statements apart). THE CARD IS WHAT COUNTS. Prove the row's statement (the work); the ties are given (YtjmigclbilnajaaDoorTie.lean); close each card by the builder's one call (the guide's Derived/Test/ToyasCard.lean, 'card_holds'). Laid BY PROGRAM, IN A SANDBOX (cutbox-door.mjs). By AI agents, Wed Nov 11 2026. No macro, syntax, notation, axiom, sorry.
-/
import Derived.Test.YtjmigclbilnajaaDoorRows
import GoSem.ClaimSeven
namespace Go.Proofs.YtjmigclbilnajaaDoor
namespace Rows

/-- THE TIED CARD OF 'changeforgelaw2.TreecommuteMatchesSpec'. -/
def treecommuteMatchesSpecCard : Claim7 := { stood := { row := treecommuteMatchesSpecRow, standIns := [], harness := (true, "a5ed57c6c47301c3fa123c1c33ac0f7bb4fc18d567a28bc0d816c490f2563ed7"), looks := false }, kinds := [], alts := [], laidByText := true, laidKinds := [.data, .pinned], laidTests := true, laidLooks := .later }
def TreecommuteMatchesSpecCardSaid : Prop := Claim7.holds Tryd.pinned (.plain (OpenSpec.ofChange treecommuteMatchesSpecSpec)) treecommuteMatchesSpecCard

/-- THE TIED CARD OF 'changeforgelaw2.TreecommuteTwice'. -/
def treecommuteTwiceCard : Claim7 := { stood := { row := treecommuteTwiceRow, standIns := [], harness := (true, "a5ed57c6c47301c3fa123c1c33ac0f7bb4fc18d567a28bc0d816c490f2563ed7"), looks := false }, kinds := [], alts := [], laidByText := true, laidKinds := [.data, .pinned], laidTests := true, laidLooks := .later }
def TreecommuteTwiceCardSaid : Prop := Claim7.holds Tryd.pinned (.plain (OpenSpec.ofChange treecommuteTwiceSpec)) treecommuteTwiceCard

/-- THE TIED CARD OF 'changeforgelaw2.TreecommuteDistance'. -/
def treecommuteDistanceCard : Claim7 := { stood := { row := treecommuteDistanceRow, standIns := [], harness := (true, "a5ed57c6c47301c3fa123c1c33ac0f7bb4fc18d567a28bc0d816c490f2563ed7"), looks := false }, kinds := [], alts := [], laidByText := true, laidKinds := [.data, .pinned], laidTests := true, laidLooks := .later }
def TreecommuteDistanceCardSaid : Prop := Claim7.holds Tryd.pinned (.plain (OpenSpec.ofChange treecommuteDistanceSpec)) treecommuteDistanceCard

/-- THE TIED CARD OF 'changeforgelaw2.TreepatchMatchesSpec'. -/
def treepatchMatchesSpecCard : Claim7 := { stood := { row := treepatchMatchesSpecRow, standIns := [], harness := (true, "a5ed57c6c47301c3fa123c1c33ac0f7bb4fc18d567a28bc0d816c490f2563ed7"), looks := false }, kinds := [], alts := [], laidByText := true, laidKinds := [.data, .pinned], laidTests := true, laidLooks := .later }
def TreepatchMatchesSpecCardSaid : Prop := Claim7.holds Tryd.pinned (.plain (OpenSpec.ofChange treepatchMatchesSpecSpec)) treepatchMatchesSpecCard

/-- THE TIED CARD OF 'changeforgelaw2.TreepatchStaysValid'. -/
def treepatchStaysValidCard : Claim7 := { stood := { row := treepatchStaysValidRow, standIns := [], harness := (true, "a5ed57c6c47301c3fa123c1c33ac0f7bb4fc18d567a28bc0d816c490f2563ed7"), looks := false }, kinds := [], alts := [], laidByText := true, laidKinds := [.data, .pinned], laidTests := true, laidLooks := .later }
def TreepatchStaysValidCardSaid : Prop := Claim7.holds Tryd.pinned (.plain (OpenSpec.ofChange treepatchStaysValidSpec)) treepatchStaysValidCard

/-- THE TIED CARD OF 'changeforgelaw2.TreepatchSequence'. -/
def treepatchSequenceCard : Claim7 := { stood := { row := treepatchSequenceRow, standIns := [], harness := (true, "a5ed57c6c47301c3fa123c1c33ac0f7bb4fc18d567a28bc0d816c490f2563ed7"), looks := false }, kinds := [], alts := [], laidByText := true, laidKinds := [.data, .pinned], laidTests := true, laidLooks := .later }
def TreepatchSequenceCardSaid : Prop := Claim7.holds Tryd.pinned (.plain (OpenSpec.ofChange treepatchSequenceSpec)) treepatchSequenceCard

/-- THE TIED CARD OF 'changeforgelaw2.TreepatchUndo'. -/
def treepatchUndoCard : Claim7 := { stood := { row := treepatchUndoRow, standIns := [], harness := (true, "a5ed57c6c47301c3fa123c1c33ac0f7bb4fc18d567a28bc0d816c490f2563ed7"), looks := false }, kinds := [], alts := [], laidByText := true, laidKinds := [.data, .pinned], laidTests := true, laidLooks := .later }
def TreepatchUndoCardSaid : Prop := Claim7.holds Tryd.pinned (.plain (OpenSpec.ofChange treepatchUndoSpec)) treepatchUndoCard

/-- THE TIED CARD OF 'changeforgelaw2.TreepatchDiffApplies'. -/
def treepatchDiffAppliesCard : Claim7 := { stood := { row := treepatchDiffAppliesRow, standIns := [], harness := (true, "a5ed57c6c47301c3fa123c1c33ac0f7bb4fc18d567a28bc0d816c490f2563ed7"), looks := false }, kinds := [], alts := [], laidByText := true, laidKinds := [.data, .pinned], laidTests := true, laidLooks := .later }
def TreepatchDiffAppliesCardSaid : Prop := Claim7.holds Tryd.pinned (.plain (OpenSpec.ofChange treepatchDiffAppliesSpec)) treepatchDiffAppliesCard

/-- THE TIED CARD OF 'changeforgelaw2.TreecommuteSameEffect'. -/
def treecommuteSameEffectCard : Claim7 := { stood := { row := treecommuteSameEffectRow, standIns := [], harness := (true, "a5ed57c6c47301c3fa123c1c33ac0f7bb4fc18d567a28bc0d816c490f2563ed7"), looks := false }, kinds := [], alts := [], laidByText := true, laidKinds := [.data, .pinned], laidTests := true, laidLooks := .later }
def TreecommuteSameEffectCardSaid : Prop := Claim7.holds Tryd.pinned (.plain (OpenSpec.ofChange treecommuteSameEffectSpec)) treecommuteSameEffectCard

/-- THE SECOND FORM's CARD OF 'changeforgelaw2.TreecommuteMatchesSpec'. -/
def treecommuteMatchesSpecUptoCard : Claim7 := { stood := { row := treecommuteMatchesSpecUptoRow, standIns := [], harness := (true, "a5ed57c6c47301c3fa123c1c33ac0f7bb4fc18d567a28bc0d816c490f2563ed7"), looks := false }, kinds := [], alts := [], laidByText := true, laidKinds := [.data, .pinned], laidTests := true, laidLooks := .later }
def TreecommuteMatchesSpecUptoCardSaid : Prop := Claim7.holds Tryd.pinned (.plain (OpenSpec.upto treecommuteMatchesSpecSpec)) treecommuteMatchesSpecUptoCard

/-- THE SECOND FORM's CARD OF 'changeforgelaw2.TreecommuteTwice'. -/
def treecommuteTwiceUptoCard : Claim7 := { stood := { row := treecommuteTwiceUptoRow, standIns := [], harness := (true, "a5ed57c6c47301c3fa123c1c33ac0f7bb4fc18d567a28bc0d816c490f2563ed7"), looks := false }, kinds := [], alts := [], laidByText := true, laidKinds := [.data, .pinned], laidTests := true, laidLooks := .later }
def TreecommuteTwiceUptoCardSaid : Prop := Claim7.holds Tryd.pinned (.plain (OpenSpec.upto treecommuteTwiceSpec)) treecommuteTwiceUptoCard

/-- THE SECOND FORM's CARD OF 'changeforgelaw2.TreecommuteDistance'. -/
def treecommuteDistanceUptoCard : Claim7 := { stood := { row := treecommuteDistanceUptoRow, standIns := [], harness := (true, "a5ed57c6c47301c3fa123c1c33ac0f7bb4fc18d567a28bc0d816c490f2563ed7"), looks := false }, kinds := [], alts := [], laidByText := true, laidKinds := [.data, .pinned], laidTests := true, laidLooks := .later }
def TreecommuteDistanceUptoCardSaid : Prop := Claim7.holds Tryd.pinned (.plain (OpenSpec.upto treecommuteDistanceSpec)) treecommuteDistanceUptoCard

/-- THE SECOND FORM's CARD OF 'changeforgelaw2.TreepatchMatchesSpec'. -/
def treepatchMatchesSpecUptoCard : Claim7 := { stood := { row := treepatchMatchesSpecUptoRow, standIns := [], harness := (true, "a5ed57c6c47301c3fa123c1c33ac0f7bb4fc18d567a28bc0d816c490f2563ed7"), looks := false }, kinds := [], alts := [], laidByText := true, laidKinds := [.data, .pinned], laidTests := true, laidLooks := .later }
def TreepatchMatchesSpecUptoCardSaid : Prop := Claim7.holds Tryd.pinned (.plain (OpenSpec.upto treepatchMatchesSpecSpec)) treepatchMatchesSpecUptoCard

/-- THE SECOND FORM's CARD OF 'changeforgelaw2.TreepatchStaysValid'. -/
def treepatchStaysValidUptoCard : Claim7 := { stood := { row := treepatchStaysValidUptoRow, standIns := [], harness := (true, "a5ed57c6c47301c3fa123c1c33ac0f7bb4fc18d567a28bc0d816c490f2563ed7"), looks := false }, kinds := [], alts := [], laidByText := true, laidKinds := [.data, .pinned], laidTests := true, laidLooks := .later }
def TreepatchStaysValidUptoCardSaid : Prop := Claim7.holds Tryd.pinned (.plain (OpenSpec.upto treepatchStaysValidSpec)) treepatchStaysValidUptoCard

/-- THE SECOND FORM's CARD OF 'changeforgelaw2.TreepatchSequence'. -/
def treepatchSequenceUptoCard : Claim7 := { stood := { row := treepatchSequenceUptoRow, standIns := [], harness := (true, "a5ed57c6c47301c3fa123c1c33ac0f7bb4fc18d567a28bc0d816c490f2563ed7"), looks := false }, kinds := [], alts := [], laidByText := true, laidKinds := [.data, .pinned], laidTests := true, laidLooks := .later }
def TreepatchSequenceUptoCardSaid : Prop := Claim7.holds Tryd.pinned (.plain (OpenSpec.upto treepatchSequenceSpec)) treepatchSequenceUptoCard

/-- THE SECOND FORM's CARD OF 'changeforgelaw2.TreepatchUndo'. -/
def treepatchUndoUptoCard : Claim7 := { stood := { row := treepatchUndoUptoRow, standIns := [], harness := (true, "a5ed57c6c47301c3fa123c1c33ac0f7bb4fc18d567a28bc0d816c490f2563ed7"), looks := false }, kinds := [], alts := [], laidByText := true, laidKinds := [.data, .pinned], laidTests := true, laidLooks := .later }
def TreepatchUndoUptoCardSaid : Prop := Claim7.holds Tryd.pinned (.plain (OpenSpec.upto treepatchUndoSpec)) treepatchUndoUptoCard

/-- THE SECOND FORM's CARD OF 'changeforgelaw2.TreepatchDiffApplies'. -/
def treepatchDiffAppliesUptoCard : Claim7 := { stood := { row := treepatchDiffAppliesUptoRow, standIns := [], harness := (true, "a5ed57c6c47301c3fa123c1c33ac0f7bb4fc18d567a28bc0d816c490f2563ed7"), looks := false }, kinds := [], alts := [], laidByText := true, laidKinds := [.data, .pinned], laidTests := true, laidLooks := .later }
def TreepatchDiffAppliesUptoCardSaid : Prop := Claim7.holds Tryd.pinned (.plain (OpenSpec.upto treepatchDiffAppliesSpec)) treepatchDiffAppliesUptoCard

/-- THE SECOND FORM's CARD OF 'changeforgelaw2.TreecommuteSameEffect'. -/
def treecommuteSameEffectUptoCard : Claim7 := { stood := { row := treecommuteSameEffectUptoRow, standIns := [], harness := (true, "a5ed57c6c47301c3fa123c1c33ac0f7bb4fc18d567a28bc0d816c490f2563ed7"), looks := false }, kinds := [], alts := [], laidByText := true, laidKinds := [.data, .pinned], laidTests := true, laidLooks := .later }
def TreecommuteSameEffectUptoCardSaid : Prop := Claim7.holds Tryd.pinned (.plain (OpenSpec.upto treecommuteSameEffectSpec)) treecommuteSameEffectUptoCard
end Rows
end Go.Proofs.YtjmigclbilnajaaDoor
