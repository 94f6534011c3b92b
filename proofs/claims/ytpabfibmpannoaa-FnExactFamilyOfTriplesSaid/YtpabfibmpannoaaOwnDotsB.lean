/- Dots crossed, turned, and their differences: what the reference's and the program's functions return; lists of at most 1048576 numbers. -/
import Derived.Test.YtpabfibmpannoaaOwnDotsA
import Derived.Test.YtpabfibmpannoaaOwnLawKit
import Derived.StillTailTactics
namespace Go.Proofs.Ytpabfibmpannoaa.Own
open Go.RowKit Go.Proofs.YtpabfibmpannoaaW.PrintWords Go.Proofs.YtpabfibmpannoaaW.PrintLast Go.Proofs.YtpabfibmpannoaaW.PrintMore
set_option linter.unusedVariables false
theorem ret_two {v : Value} {a b : Bool} (h : a = b) : Ending.returned (.tuple #[v, .bool a]) = .returned (.tuple #[v, .bool b]) := by rw [h]
/-- The row that stores make, behind i of them. -/
def crossed (l : List Int) : Nat → List Int
  | 0 => List.replicate l.length 0
  | i + 1 => (crossed l i).set (rd l (i : Int)).toNat (i : Int)
theorem crossed_length (l : List Int) (i : Nat) : (crossed l i).length = l.length := by
  induction i with
  | zero => simp [crossed]
  | succ i ih => simp [crossed, ih]
noncomputable def CrossF (l : List Int) : List Int × Bool := if tf (Dots l) = true then (crossed l l.length, true) else ([], false)
theorem CrossF_yes {l : List Int} (h : Dots l) : CrossF l = (crossed l l.length, true) := if_pos (tf_pos h)
theorem CrossF_no {l : List Int} (h : ¬ Dots l) : CrossF l = ([], false) := if_neg (by rw [tf_neg h]; decide)
theorem CrossF_len (l : List Int) (hn : l.length ≤ 1048576) : (CrossF l).1.length ≤ 1048576 := by
  by_cases h : Dots l
  · rw [CrossF_yes h, crossed_length]; exact hn
  · rw [CrossF_no h]; simp
end Go.Proofs.Ytpabfibmpannoaa.Own
