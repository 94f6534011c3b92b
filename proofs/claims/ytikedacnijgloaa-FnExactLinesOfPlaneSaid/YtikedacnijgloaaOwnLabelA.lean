/- Trees and labels: what the reference's grTree and grLabels and the program's IsTree and areLabels return; lists of at most 1048576 numbers. -/
import Derived.Test.YtikedacnijgloaaOwnGen
namespace Go.Proofs.Ytikedacnijgloaa.Own.G
open Go.RowKit Go.Proofs.YtikedacnijgloaaW.PrintWords Go.Proofs.YtikedacnijgloaaW.PrintLast Go.Proofs.YtikedacnijgloaaW.PrintMore
set_option linter.unusedVariables false
def Tree (l : List Int) : Prop := ((1 ≤ l.length ∧ l.length ≤ 9) ∧ rd l 0 = -1) ∧ ∀ j : Nat, 0 < j → j < l.length → 0 ≤ rd l (j : Int) ∧ rd l (j : Int) < (j : Int)
def LabelAt (n : Int) (l : List Int) (j : Nat) : Prop := 0 ≤ rd l (j : Int) ∧ rd l (j : Int) < n ∧ rd l (j : Int) ∉ l.take j
def Labels (n : Int) (l : List Int) : Prop := (l.length : Int) = n ∧ ∀ j : Nat, j < l.length → LabelAt n l j
def AllIn (a b : Int) (l : List Int) : Prop := ∀ j : Nat, j < l.length → a ≤ rd l (j : Int) ∧ rd l (j : Int) ≤ b
end Go.Proofs.Ytikedacnijgloaa.Own.G
