/- Differences of dots, dots turned, dots without a corner, echoes: what the reference's and the program's functions return; lists of at most 1048576 numbers. -/
import Derived.Test.YtpabfibmpannoaaOwnDotsB
namespace Go.Proofs.Ytpabfibmpannoaa.Own
open Go.RowKit Go.Proofs.YtpabfibmpannoaaW.PrintWords Go.Proofs.YtpabfibmpannoaaW.PrintLast Go.Proofs.YtpabfibmpannoaaW.PrintMore
set_option linter.unusedVariables false
/-- The differences at a distance, i of them. -/
def diffs (l : List Int) (k : Nat) (i : Nat) : List Int := (List.range i).map fun j : Nat => rd l ((k + j : Nat) : Int) - rd l (j : Int)
theorem diffs_length (l : List Int) (k i : Nat) : (diffs l k i).length = i := by simp [diffs]
theorem diffs_succ (l : List Int) (k i : Nat) : diffs l k (i + 1) = diffs l k i ++ [rd l ((k + i : Nat) : Int) - rd l (i : Int)] := by
  unfold diffs
  rw [List.range_succ, List.map_append]
  rfl
/-- Numbers of a small size: sums and differences of two do not wrap. -/
def Small (l : List Int) : Prop := ∀ x ∈ l, -1000000 ≤ x ∧ x ≤ 1000000
theorem Small_rd {l : List Int} (h : Small l) {i : Nat} (hi : i < l.length) : -1000000 ≤ rd l (i : Int) ∧ rd l (i : Int) ≤ 1000000 := h _ (rd_mem hi)
theorem Dots_small {l : List Int} (h : Dots l) : Small l := fun x hx => by
  obtain ⟨i, hi, rfl⟩ := mem_rd hx
  have := h.2 i hi
  have := this.1
  have := (h.2 i hi).2.1
  have := h.1
  omega
end Go.Proofs.Ytpabfibmpannoaa.Own
