/- Circle sets: what the reference's ciGood and the program's IsCircleSet return; lists of at most 1048576 numbers. -/
import Derived.Test.YtikedacnijgloaaOwnLabelA
namespace Go.Proofs.Ytikedacnijgloaa.Own.G
open Go.RowKit Go.Proofs.YtikedacnijgloaaW.PrintWords Go.Proofs.YtikedacnijgloaaW.PrintLast Go.Proofs.YtikedacnijgloaaW.PrintMore
set_option linter.unusedVariables false
def Ups (l : List Int) : Prop := ∀ i : Nat, i + 1 < l.length → rd l (i : Int) < rd l ((i + 1 : Nat) : Int)
def Circ (v : Int) (l : List Int) : Prop := ((2 ≤ v ∧ v ≤ 31) ∧ (1 ≤ l.length ∧ l.length ≤ 8) ∧ (l.length : Int) < v) ∧ AllIn 0 (v - 1) l ∧ Ups l
end Go.Proofs.Ytikedacnijgloaa.Own.G
