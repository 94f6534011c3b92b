/-
  No cell of these rows narrows 'for every input' (looked for: loops, veiled, ifaces, maps, wideKeys, modest, calm, conditions, laid).
  DERIVED. THE GIVEN ROWS OF THIS SEAT. 3 by the template 'for every input the law returns true; each argument reads behind the call as it read before'; 0 by the template 'total and deterministic' (their statements: YtikedacnijgloaaTotals.lean).
  GIVEN WITH THE SEED: the statements are not yours to turn. If you find one false, say at which input.
  Laid BY PROGRAM, IN A SANDBOX (cutbox-rows.mjs): the forced cells as the released guide's own fill.sh prints them over the translation f117d972bb7681c9… (all of the seat's roots in one cut). By AI agents, Wed Nov 11 2026. No macro, syntax, notation, axiom, sorry.
-/
import Derived.Test.YtikedacnijgloaaChecked
import GoSem.Claim
import GoSem.ClaimJoined
import GoSem.ClaimMapViews
import Derived.JoinedTies
import Derived.KernelRfl
namespace Go.Proofs.Ytikedacnijgloaa
/- THE CELL 'sum', in the pinned program and in every row, IS THE sha256 OF THE DUMP (.gsa) THAT YtikedacnijgloaaProg.lean LOADS. Nothing in Lean hashes anything: it is a label: what it is worth is what the hold of that sum in a sandbox is worth. -/
noncomputable def Try.pinned : Pinned := { name := "ytikedacnijgloaa", sum := "f117d972bb7681c9949a2a537c85b0eab5a7496768bd61c842465274794d166d", checked := Try.checked }
namespace Rows
def none {H : Type} : Left H := { results := [], args := [] }

/-- 'laws.FnExactCountDifferenceSets': WHATEVER THE INPUT: true; the input reads as it did. -/
def fnExactCountDifferenceSetsSpec : ChangeSpec := { name := "fnExactCountDifferenceSets", fn := fun _ => fun
  | [d1, d2] => { results := [.lit (.bool true)], args := [d1, d2] }
  | _ => none }
def fnExactCountDifferenceSetsRow : OpenClaim := { program := "ytikedacnijgloaa", sum := "f117d972bb7681c9949a2a537c85b0eab5a7496768bd61c842465274794d166d", func := "loop.example/g01232/laws.FnExactCountDifferenceSets", spec := "fnExactCountDifferenceSets", unfollowed := true, recurses := true, apart := false }
def FnExactCountDifferenceSetsSaid : Prop := fnExactCountDifferenceSetsRow.holds Try.pinned (OpenSpec.ofChange fnExactCountDifferenceSetsSpec)

/-- ITS FALSE NEIGHBOUR: 'it returns false'. Refute it at one input. -/
def fnExactCountDifferenceSetsWrong : ChangeSpec := { name := "fnExactCountDifferenceSets", fn := fun _ => fun
  | [d1, d2] => { results := [.lit (.bool false)], args := [d1, d2] }
  | _ => none }
def FnExactCountDifferenceSetsWrongFalsely : Prop := fnExactCountDifferenceSetsRow.holds Try.pinned (OpenSpec.ofChange fnExactCountDifferenceSetsWrong)

/-- 'laws.FnExactFirstDifferenceSet': WHATEVER THE INPUT: true; the input reads as it did. -/
def fnExactFirstDifferenceSetSpec : ChangeSpec := { name := "fnExactFirstDifferenceSet", fn := fun _ => fun
  | [d1, d2] => { results := [.lit (.bool true)], args := [d1, d2] }
  | _ => none }
def fnExactFirstDifferenceSetRow : OpenClaim := { program := "ytikedacnijgloaa", sum := "f117d972bb7681c9949a2a537c85b0eab5a7496768bd61c842465274794d166d", func := "loop.example/g01232/laws.FnExactFirstDifferenceSet", spec := "fnExactFirstDifferenceSet", unfollowed := true, recurses := true, apart := false }
def FnExactFirstDifferenceSetSaid : Prop := fnExactFirstDifferenceSetRow.holds Try.pinned (OpenSpec.ofChange fnExactFirstDifferenceSetSpec)

/-- ITS FALSE NEIGHBOUR: 'it returns false'. Refute it at one input. -/
def fnExactFirstDifferenceSetWrong : ChangeSpec := { name := "fnExactFirstDifferenceSet", fn := fun _ => fun
  | [d1, d2] => { results := [.lit (.bool false)], args := [d1, d2] }
  | _ => none }
def FnExactFirstDifferenceSetWrongFalsely : Prop := fnExactFirstDifferenceSetRow.holds Try.pinned (OpenSpec.ofChange fnExactFirstDifferenceSetWrong)

/-- 'laws.FnExactLinesOfPlane': WHATEVER THE INPUT: true; the input reads as it did. -/
def fnExactLinesOfPlaneSpec : ChangeSpec := { name := "fnExactLinesOfPlane", fn := fun _ => fun
  | [d] => { results := [.lit (.bool true)], args := [d] }
  | _ => none }
def fnExactLinesOfPlaneRow : OpenClaim := { program := "ytikedacnijgloaa", sum := "f117d972bb7681c9949a2a537c85b0eab5a7496768bd61c842465274794d166d", func := "loop.example/g01232/laws.FnExactLinesOfPlane", spec := "fnExactLinesOfPlane", unfollowed := true, recurses := true, apart := false }
def FnExactLinesOfPlaneSaid : Prop := fnExactLinesOfPlaneRow.holds Try.pinned (OpenSpec.ofChange fnExactLinesOfPlaneSpec)

/-- ITS FALSE NEIGHBOUR: 'it returns false'. Refute it at one input. -/
def fnExactLinesOfPlaneWrong : ChangeSpec := { name := "fnExactLinesOfPlane", fn := fun _ => fun
  | [d] => { results := [.lit (.bool false)], args := [d] }
  | _ => none }
def FnExactLinesOfPlaneWrongFalsely : Prop := fnExactLinesOfPlaneRow.holds Try.pinned (OpenSpec.ofChange fnExactLinesOfPlaneWrong)

/- THE SECOND FORM. 'bulk': how many values and letters a reading holds, each counted each time it is reached (what is shared counts as often as it is met; a slice's spare places count too). A statement '..UptoSaid' is the law's where the arguments, and the package variables that the reading takes, are together of bulk at most 1048576: NARROWER than '..Said'. Prove '..Said' where nothing that the law and all that it calls make is longer than what came in: it says more and counts as full. Else prove '..UptoSaid'. A law counts once. -/
mutual
def uptoBulk {H : Type} : DataW H → Nat
  | .lit (.string bytes) => bytes.length + 1
  | .lit _ => 1
  | .nil => 1
  | .ptr d => uptoBulk d + 1
  | .slice elems spare => uptoBulkAll elems + uptoBulkAll spare + 1
  | .agg parts => uptoBulkAll parts + 1
  | .iface _ d => uptoBulk d + 1
  | .map entries => uptoBulkEntries entries + 1
  | .held _ => 1
def uptoBulkAll {H : Type} : List (DataW H) → Nat
  | [] => 0
  | d :: r => uptoBulk d + uptoBulkAll r
def uptoBulkEntries {H : Type} : List (Lit × DataW H) → Nat
  | [] => 0
  | x :: r => uptoBulkEntry x + uptoBulkEntries r
def uptoBulkEntry {H : Type} : Lit × DataW H → Nat
  | (.string bytes, d) => bytes.length + uptoBulk d + 1
  | (_, d) => uptoBulk d + 1
 end
def uptoSmall : (H : Type) → List (DataW H) → Bool := fun _ ds => decide (uptoBulkAll ds ≤ 1048576)
def OpenSpec.upto (s : _root_.Go.ChangeSpec) : _root_.Go.OpenSpec := { _root_.Go.OpenSpec.ofChange s with cond := some uptoSmall }

/-- 'laws.FnExactCountDifferenceSets', WHERE WHAT IT READS IS OF BULK AT MOST 1048576: true; the input reads as it did. -/
def fnExactCountDifferenceSetsUptoRow : OpenClaim := { program := "ytikedacnijgloaa", sum := "f117d972bb7681c9949a2a537c85b0eab5a7496768bd61c842465274794d166d", func := "loop.example/g01232/laws.FnExactCountDifferenceSets", spec := "fnExactCountDifferenceSets", unfollowed := true, recurses := true, apart := false, narrowed := true }
def FnExactCountDifferenceSetsUptoSaid : Prop := fnExactCountDifferenceSetsUptoRow.holds Try.pinned (OpenSpec.upto fnExactCountDifferenceSetsSpec)

/-- 'laws.FnExactFirstDifferenceSet', WHERE WHAT IT READS IS OF BULK AT MOST 1048576: true; the input reads as it did. -/
def fnExactFirstDifferenceSetUptoRow : OpenClaim := { program := "ytikedacnijgloaa", sum := "f117d972bb7681c9949a2a537c85b0eab5a7496768bd61c842465274794d166d", func := "loop.example/g01232/laws.FnExactFirstDifferenceSet", spec := "fnExactFirstDifferenceSet", unfollowed := true, recurses := true, apart := false, narrowed := true }
def FnExactFirstDifferenceSetUptoSaid : Prop := fnExactFirstDifferenceSetUptoRow.holds Try.pinned (OpenSpec.upto fnExactFirstDifferenceSetSpec)

/-- 'laws.FnExactLinesOfPlane', WHERE WHAT IT READS IS OF BULK AT MOST 1048576: true; the input reads as it did. -/
def fnExactLinesOfPlaneUptoRow : OpenClaim := { program := "ytikedacnijgloaa", sum := "f117d972bb7681c9949a2a537c85b0eab5a7496768bd61c842465274794d166d", func := "loop.example/g01232/laws.FnExactLinesOfPlane", spec := "fnExactLinesOfPlane", unfollowed := true, recurses := true, apart := false, narrowed := true }
def FnExactLinesOfPlaneUptoSaid : Prop := fnExactLinesOfPlaneUptoRow.holds Try.pinned (OpenSpec.upto fnExactLinesOfPlaneSpec)

end Rows
end Go.Proofs.Ytikedacnijgloaa
