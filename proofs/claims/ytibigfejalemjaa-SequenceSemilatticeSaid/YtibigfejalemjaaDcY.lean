/- Slices whose being nil and being empty are one. -/
import Derived.Test.YtibigfejalemjaaDcX
set_option linter.unusedVariables false
namespace Go.Dc
open Go
variable {P : Program} {ρ : Option Nat} {n : Fw} {e : List (Nat × Value)} {C : World → Prop}

/-- an empty one is nil -/
def NilE {α : Type} (l : List α) (v : Value) : Prop := l = [] → v = .slice Option.none 0 0
def neE? {α : Type} (l : List α) : Option Unit := if l.isEmpty then Option.none else some ()

theorem NilE.nil {α : Type} : NilE ([] : List α) (.slice Option.none 0 0) := fun _ => rfl
theorem NilE.of {α : Type} {l : List α} {v : Value} {u : Unit} (h : neE? l = some u) : NilE l v := by
  intro e
  subst e
  cases h

section
variable {α : Type} [Rep α]
theorem isnilS {g : Gh} {l : List α} {v : Value} (h : RepSl g l v) (hn : NilE l v) : ∃ a m k, v = .slice a m k ∧ a.isNone = l.isEmpty := by
  obtain ⟨a, m, k, rfl, h2⟩ := h.isnil
  refine ⟨a, m, k, rfl, ?_⟩
  cases l with
  | nil => have := hn rfl; injection this with h3; subst h3; rfl
  | cons x l =>
    cases a with
    | none => cases h2 rfl
    | some a => rfl
theorem isnilO {g : Gh} {l : List α} {v : Value} {c : Hl} (h : OwnS g l v c) (hn : NilE l v) : ∃ a m k, v = .slice a m k ∧ a.isNone = l.isEmpty := by
  obtain ⟨a, m, k, rfl, h2⟩ := h.isnil
  refine ⟨a, m, k, rfl, ?_⟩
  cases l with
  | nil => have := hn rfl; injection this with h3; subst h3; rfl
  | cons x l =>
    cases a with
    | none => cases h2 rfl
    | some a => rfl

theorem ev_nileqlSx {g : Gh} {l : List α} {v : Value} {T E U : TypeId} {x y : Operand} (h : RepSl g l v) (hn : NilE l v) (hT : P.underlying T = some (.slice E)) (hx : evalE e x = some v) (hy : evalE e y = some (.slice Option.none 0 0)) :
    Ev P n e C (.binOp .eql T x y U) (.bool l.isEmpty) := by
  obtain ⟨a, m, k, rfl, h2⟩ := isnilS h hn
  rw [← h2]; exact ev_nilV hT hx hy
theorem ev_nileqlOx {g : Gh} {l : List α} {v : Value} {c : Hl} {T E U : TypeId} {x y : Operand} (h : OwnS g l v c) (hn : NilE l v) (hT : P.underlying T = some (.slice E)) (hx : evalE e x = some v) (hy : evalE e y = some (.slice Option.none 0 0)) :
    Ev P n e C (.binOp .eql T x y U) (.bool l.isEmpty) := by
  obtain ⟨a, m, k, rfl, h2⟩ := isnilO h hn
  rw [← h2]; exact ev_nilV hT hx hy
theorem ev_nilneqSx {g : Gh} {l : List α} {v : Value} {T E U : TypeId} {x y : Operand} (h : RepSl g l v) (hn : NilE l v) (hT : P.underlying T = some (.slice E)) (hx : evalE e x = some v) (hy : evalE e y = some (.slice Option.none 0 0)) :
    Ev P n e C (.binOp .neq T x y U) (.bool (!l.isEmpty)) := by
  obtain ⟨a, m, k, rfl, h2⟩ := isnilS h hn
  rw [← h2]; exact ev_nenV hT hx hy
theorem ev_nilneqOx {g : Gh} {l : List α} {v : Value} {c : Hl} {T E U : TypeId} {x y : Operand} (h : OwnS g l v c) (hn : NilE l v) (hT : P.underlying T = some (.slice E)) (hx : evalE e x = some v) (hy : evalE e y = some (.slice Option.none 0 0)) :
    Ev P n e C (.binOp .neq T x y U) (.bool (!l.isEmpty)) := by
  obtain ⟨a, m, k, rfl, h2⟩ := isnilO h hn
  rw [← h2]; exact ev_nenV hT hx hy
end
end Go.Dc
