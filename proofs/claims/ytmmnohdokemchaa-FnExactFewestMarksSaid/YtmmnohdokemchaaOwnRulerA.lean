/- Rulers: what the reference's ruGood and ruTimes and the program's IsRuler and measured return; lists of at most 1048576 numbers. -/
import Derived.Test.YtmmnohdokemchaaOwnGen
namespace Go.Proofs.Ytmmnohdokemchaa.Own.G
open Go.RowKit Go.Proofs.YtmmnohdokemchaaW.PrintWords Go.Proofs.YtmmnohdokemchaaW.PrintLast Go.Proofs.YtmmnohdokemchaaW.PrintMore
set_option linter.unusedVariables false
def Rises (l : List Int) : Prop := ∀ i : Nat, i + 1 < l.length → rd l (i : Int) < rd l ((i + 1 : Nat) : Int)
def Ruler (l : List Int) : Prop := ((1 ≤ l.length ∧ l.length ≤ 12) ∧ rd l 0 = 0) ∧ Rises l ∧ rd l ((l.length : Int) - 1) ≤ 60
theorem Rises_lt {l : List Int} (h : Rises l) {i j : Nat} (hij : i < j) (hj : j < l.length) : rd l (i : Int) < rd l (j : Int) := by
  induction j with
  | zero => omega
  | succ j ih =>
    have h1 := h j hj
    rcases Nat.lt_or_ge i j with h2 | h2
    · have := ih h2 (by omega); omega
    · rw [show i = j by omega]; exact h1
theorem Rises_le {l : List Int} (h : Rises l) {i j : Nat} (hij : i ≤ j) (hj : j < l.length) : rd l (i : Int) ≤ rd l (j : Int) := by
  rcases Nat.lt_or_ge i j with h2 | h2
  · have := Rises_lt h h2 hj; omega
  · rw [show i = j by omega]; exact Int.le_refl _
/-- The length of a ruler. -/
def span (l : List Int) : Nat := (rd l ((l.length : Int) - 1)).toNat
theorem Ruler_span {l : List Int} (h : Ruler l) : rd l ((l.length : Int) - 1) = (span l : Int) := by
  have h1 := Rises_le h.2.1 (show 0 ≤ l.length - 1 by omega) (by have := h.1.1; omega)
  have h0 := h.1.2
  have hl := h.1.1
  rw [show ((l.length - 1 : Nat) : Int) = (l.length : Int) - 1 by omega] at h1
  unfold span
  have h2 : rd l ((0 : Nat) : Int) = 0 := h0
  omega
theorem span_le {l : List Int} (h : Ruler l) : span l ≤ 60 := by
  have := Ruler_span h
  have := h.2.2
  omega
theorem Ruler_rd {l : List Int} (h : Ruler l) {i j : Nat} (hij : i ≤ j) (hj : j < l.length) : 0 ≤ rd l (i : Int) ∧ rd l (i : Int) ≤ rd l (j : Int) ∧ rd l (j : Int) ≤ (span l : Int) := by
  have h0 := Rises_le h.2.1 (Nat.zero_le i) (by omega)
  have h1 := Rises_le h.2.1 hij hj
  have h2 := Rises_le h.2.1 (show j ≤ l.length - 1 by omega) (by omega)
  rw [show ((l.length - 1 : Nat) : Int) = (l.length : Int) - 1 by omega, Ruler_span h] at h2
  have h3 : rd l ((0 : Nat) : Int) = 0 := h.1.2
  omega
end Go.Proofs.Ytmmnohdokemchaa.Own.G
