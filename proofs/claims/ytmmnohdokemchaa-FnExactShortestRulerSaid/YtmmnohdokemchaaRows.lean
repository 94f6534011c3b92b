/-
  No cell of these rows narrows 'for every input' (looked for: loops, veiled, ifaces, maps, wideKeys, modest, calm, conditions, laid).
  DERIVED. THE GIVEN ROWS OF THIS SEAT. 4 by the template 'for every input the law returns true; each argument reads behind the call as it read before'; 0 by the template 'total and deterministic' (their statements: YtmmnohdokemchaaTotals.lean).
  GIVEN WITH THE SEED: the statements are not yours to turn. If you find one false, say at which input.
  Laid BY PROGRAM, IN A SANDBOX (cutbox-rows.mjs): the forced cells as the released guide's own fill.sh prints them over the translation 08f3d43f9f731971… (all of the seat's roots in one cut). By AI agents, Wed Nov 11 2026. No macro, syntax, notation, axiom, sorry.
-/
import Derived.Test.YtmmnohdokemchaaChecked
import GoSem.Claim
import GoSem.ClaimJoined
import GoSem.ClaimMapViews
import Derived.JoinedTies
import Derived.KernelRfl
namespace Go.Proofs.Ytmmnohdokemchaa
/- THE CELL 'sum', in the pinned program and in every row, IS THE sha256 OF THE DUMP (.gsa) THAT YtmmnohdokemchaaProg.lean LOADS. Nothing in Lean hashes anything: it is a label: what it is worth is what the hold of that sum in a sandbox is worth. -/
noncomputable def Try.pinned : Pinned := { name := "ytmmnohdokemchaa", sum := "08f3d43f9f731971e5238db8bf01fa438df444d7ab515c94dd8376d32761f9a8", checked := Try.checked }
namespace Rows
def none {H : Type} : Left H := { results := [], args := [] }

/-- 'laws.FnExactCountDifferent': WHATEVER THE INPUT: true; the input reads as it did. -/
def fnExactCountDifferentSpec : ChangeSpec := { name := "fnExactCountDifferent", fn := fun _ => fun
  | [d1, d2] => { results := [.lit (.bool true)], args := [d1, d2] }
  | _ => none }
def fnExactCountDifferentRow : OpenClaim := { program := "ytmmnohdokemchaa", sum := "08f3d43f9f731971e5238db8bf01fa438df444d7ab515c94dd8376d32761f9a8", func := "loop.example/g01232/laws.FnExactCountDifferent", spec := "fnExactCountDifferent", unfollowed := true, recurses := true, apart := false }
def FnExactCountDifferentSaid : Prop := fnExactCountDifferentRow.holds Try.pinned (OpenSpec.ofChange fnExactCountDifferentSpec)

/-- ITS FALSE NEIGHBOUR: 'it returns false'. Refute it at one input. -/
def fnExactCountDifferentWrong : ChangeSpec := { name := "fnExactCountDifferent", fn := fun _ => fun
  | [d1, d2] => { results := [.lit (.bool false)], args := [d1, d2] }
  | _ => none }
def FnExactCountDifferentWrongFalsely : Prop := fnExactCountDifferentRow.holds Try.pinned (OpenSpec.ofChange fnExactCountDifferentWrong)

/-- 'laws.FnExactCountWhole': WHATEVER THE INPUT: true; the input reads as it did. -/
def fnExactCountWholeSpec : ChangeSpec := { name := "fnExactCountWhole", fn := fun _ => fun
  | [d1, d2] => { results := [.lit (.bool true)], args := [d1, d2] }
  | _ => none }
def fnExactCountWholeRow : OpenClaim := { program := "ytmmnohdokemchaa", sum := "08f3d43f9f731971e5238db8bf01fa438df444d7ab515c94dd8376d32761f9a8", func := "loop.example/g01232/laws.FnExactCountWhole", spec := "fnExactCountWhole", unfollowed := true, recurses := true, apart := false }
def FnExactCountWholeSaid : Prop := fnExactCountWholeRow.holds Try.pinned (OpenSpec.ofChange fnExactCountWholeSpec)

/-- ITS FALSE NEIGHBOUR: 'it returns false'. Refute it at one input. -/
def fnExactCountWholeWrong : ChangeSpec := { name := "fnExactCountWhole", fn := fun _ => fun
  | [d1, d2] => { results := [.lit (.bool false)], args := [d1, d2] }
  | _ => none }
def FnExactCountWholeWrongFalsely : Prop := fnExactCountWholeRow.holds Try.pinned (OpenSpec.ofChange fnExactCountWholeWrong)

/-- 'laws.FnExactShortestRuler': WHATEVER THE INPUT: true; the input reads as it did. -/
def fnExactShortestRulerSpec : ChangeSpec := { name := "fnExactShortestRuler", fn := fun _ => fun
  | [d] => { results := [.lit (.bool true)], args := [d] }
  | _ => none }
def fnExactShortestRulerRow : OpenClaim := { program := "ytmmnohdokemchaa", sum := "08f3d43f9f731971e5238db8bf01fa438df444d7ab515c94dd8376d32761f9a8", func := "loop.example/g01232/laws.FnExactShortestRuler", spec := "fnExactShortestRuler", unfollowed := true, recurses := true, apart := false }
def FnExactShortestRulerSaid : Prop := fnExactShortestRulerRow.holds Try.pinned (OpenSpec.ofChange fnExactShortestRulerSpec)

/-- ITS FALSE NEIGHBOUR: 'it returns false'. Refute it at one input. -/
def fnExactShortestRulerWrong : ChangeSpec := { name := "fnExactShortestRuler", fn := fun _ => fun
  | [d] => { results := [.lit (.bool false)], args := [d] }
  | _ => none }
def FnExactShortestRulerWrongFalsely : Prop := fnExactShortestRulerRow.holds Try.pinned (OpenSpec.ofChange fnExactShortestRulerWrong)

/-- 'laws.FnExactFewestMarks': WHATEVER THE INPUT: true; the input reads as it did. -/
def fnExactFewestMarksSpec : ChangeSpec := { name := "fnExactFewestMarks", fn := fun _ => fun
  | [d] => { results := [.lit (.bool true)], args := [d] }
  | _ => none }
def fnExactFewestMarksRow : OpenClaim := { program := "ytmmnohdokemchaa", sum := "08f3d43f9f731971e5238db8bf01fa438df444d7ab515c94dd8376d32761f9a8", func := "loop.example/g01232/laws.FnExactFewestMarks", spec := "fnExactFewestMarks", unfollowed := true, recurses := true, apart := false }
def FnExactFewestMarksSaid : Prop := fnExactFewestMarksRow.holds Try.pinned (OpenSpec.ofChange fnExactFewestMarksSpec)

/-- ITS FALSE NEIGHBOUR: 'it returns false'. Refute it at one input. -/
def fnExactFewestMarksWrong : ChangeSpec := { name := "fnExactFewestMarks", fn := fun _ => fun
  | [d] => { results := [.lit (.bool false)], args := [d] }
  | _ => none }
def FnExactFewestMarksWrongFalsely : Prop := fnExactFewestMarksRow.holds Try.pinned (OpenSpec.ofChange fnExactFewestMarksWrong)

/- THE SECOND FORM. 'bulk': how many values and letters a reading holds, each counted each time it is reached (what is shared counts as often as it is met; a slice's spare places count too). A statement '..UptoSaid' is the law's where the arguments, and the package variables that the reading takes, are together of bulk at most 1048576: NARROWER than '..Said'. Prove '..Said' where nothing that the law and all that it calls make is longer than what came in: it says more and counts as full. Else prove '..UptoSaid'. A law counts once. -/
mutual
def uptoBulk {H : Type} : DataW H → Nat
  | .lit (.string bytes) => bytes.length + 1
  | .lit _ => 1
  | .nil => 1
  | .ptr d => uptoBulk d + 1
  | .slice elems spare => uptoBulkAll elems + uptoBulkAll spare + 1
  | .agg parts => uptoBulkAll parts + 1
  | .iface _ d => uptoBulk d + 1
  | .map entries => uptoBulkEntries entries + 1
  | .held _ => 1
def uptoBulkAll {H : Type} : List (DataW H) → Nat
  | [] => 0
  | d :: r => uptoBulk d + uptoBulkAll r
def uptoBulkEntries {H : Type} : List (Lit × DataW H) → Nat
  | [] => 0
  | x :: r => uptoBulkEntry x + uptoBulkEntries r
def uptoBulkEntry {H : Type} : Lit × DataW H → Nat
  | (.string bytes, d) => bytes.length + uptoBulk d + 1
  | (_, d) => uptoBulk d + 1
 end
def uptoSmall : (H : Type) → List (DataW H) → Bool := fun _ ds => decide (uptoBulkAll ds ≤ 1048576)
def OpenSpec.upto (s : _root_.Go.ChangeSpec) : _root_.Go.OpenSpec := { _root_.Go.OpenSpec.ofChange s with cond := some uptoSmall }

/-- 'laws.FnExactCountDifferent', WHERE WHAT IT READS IS OF BULK AT MOST 1048576: true; the input reads as it did. -/
def fnExactCountDifferentUptoRow : OpenClaim := { program := "ytmmnohdokemchaa", sum := "08f3d43f9f731971e5238db8bf01fa438df444d7ab515c94dd8376d32761f9a8", func := "loop.example/g01232/laws.FnExactCountDifferent", spec := "fnExactCountDifferent", unfollowed := true, recurses := true, apart := false, narrowed := true }
def FnExactCountDifferentUptoSaid : Prop := fnExactCountDifferentUptoRow.holds Try.pinned (OpenSpec.upto fnExactCountDifferentSpec)

/-- 'laws.FnExactCountWhole', WHERE WHAT IT READS IS OF BULK AT MOST 1048576: true; the input reads as it did. -/
def fnExactCountWholeUptoRow : OpenClaim := { program := "ytmmnohdokemchaa", sum := "08f3d43f9f731971e5238db8bf01fa438df444d7ab515c94dd8376d32761f9a8", func := "loop.example/g01232/laws.FnExactCountWhole", spec := "fnExactCountWhole", unfollowed := true, recurses := true, apart := false, narrowed := true }
def FnExactCountWholeUptoSaid : Prop := fnExactCountWholeUptoRow.holds Try.pinned (OpenSpec.upto fnExactCountWholeSpec)

/-- 'laws.FnExactShortestRuler', WHERE WHAT IT READS IS OF BULK AT MOST 1048576: true; the input reads as it did. -/
def fnExactShortestRulerUptoRow : OpenClaim := { program := "ytmmnohdokemchaa", sum := "08f3d43f9f731971e5238db8bf01fa438df444d7ab515c94dd8376d32761f9a8", func := "loop.example/g01232/laws.FnExactShortestRuler", spec := "fnExactShortestRuler", unfollowed := true, recurses := true, apart := false, narrowed := true }
def FnExactShortestRulerUptoSaid : Prop := fnExactShortestRulerUptoRow.holds Try.pinned (OpenSpec.upto fnExactShortestRulerSpec)

/-- 'laws.FnExactFewestMarks', WHERE WHAT IT READS IS OF BULK AT MOST 1048576: true; the input reads as it did. -/
def fnExactFewestMarksUptoRow : OpenClaim := { program := "ytmmnohdokemchaa", sum := "08f3d43f9f731971e5238db8bf01fa438df444d7ab515c94dd8376d32761f9a8", func := "loop.example/g01232/laws.FnExactFewestMarks", spec := "fnExactFewestMarks", unfollowed := true, recurses := true, apart := false, narrowed := true }
def FnExactFewestMarksUptoSaid : Prop := fnExactFewestMarksUptoRow.holds Try.pinned (OpenSpec.upto fnExactFewestMarksSpec)

end Rows
end Go.Proofs.Ytmmnohdokemchaa
