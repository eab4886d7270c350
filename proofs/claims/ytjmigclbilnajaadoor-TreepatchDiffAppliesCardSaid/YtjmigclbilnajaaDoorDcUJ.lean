/- What a patch makes of a text, within the limits. -/
import Derived.Test.YtjmigclbilnajaaDoorDcUI
set_option linter.unusedSimpArgs false
set_option linter.unusedVariables false
namespace Go.Dc
open Go

def Lines (t : List ByteArray) : Prop := ∀ s ∈ t, OkLine s

theorem lines_of {t : List ByteArray} (h : (textFault t).Code = 0) : Lines t := ((okText_iff t).2 ((textFault_zero t).2 h)).2

theorem textFault_of {t : List ByteArray} (h1 : Lines t) (h2 : t.length ≤ 120) : (textFault t).Code = 0 := (textFault_zero t).1 ((okText_iff t).1 ⟨h2, h1⟩)

theorem rawS_lines : ∀ (hs : List Hunk) (t : List ByteArray) (b : Nat), Lines t → (∀ h ∈ hs, Lines h.New) → Lines (rawS hs t b)
  | [], t, b, ht, _ => fun s hs => ht s (List.mem_of_mem_drop hs)
  | h :: r, t, b, ht, hn => by
    intro s hs
    rw [rawS] at hs
    rcases List.mem_append.1 hs with hs | hs
    · exact ht s (List.mem_of_mem_drop (List.mem_of_mem_take hs))
    · rcases List.mem_append.1 hs with hs | hs
      · exact hn h (by simp) s hs
      · exact rawS_lines r t _ ht (fun x hx => hn x (List.mem_cons_of_mem _ hx)) s hs

theorem raw_lines {p : Patch} (hp : (patchFault p).Code = 0) {t : List ByteArray} (ht : Lines t) : Lines (rawS p.Hunks t 0) :=
  rawS_lines _ _ _ ht fun h hh => lines_of (good_at ((patchFault_good p).1 hp).2 (by omega) h hh).2.2.2.1

theorem applyF_of {p : Patch} (hp : (patchFault p).Code = 0) {t : List ByteArray} (h1 : Lines t) (h2 : t.length ≤ 120) (hf : Fits t p.Hunks) : applyF p t = if (rawS p.Hunks t 0).length > 120 then ([], ⟨10, -1⟩) else (rawS p.Hunks t 0, ⟨0, 0⟩) := by
  unfold applyF
  rw [if_neg (by omega), if_neg (by rw [textFault_of h1 h2]; simp), (oscan_fits t p.Hunks 0).2 hf]

end Go.Dc
