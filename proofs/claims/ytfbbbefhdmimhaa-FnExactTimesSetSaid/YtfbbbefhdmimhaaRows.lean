/-
  No cell of these rows narrows 'for every input' (looked for: loops, veiled, ifaces, maps, wideKeys, modest, calm, conditions, laid).
  DERIVED. THE GIVEN ROWS OF THIS SEAT. 4 by the template 'for every input the law returns true; each argument reads behind the call as it read before'; 0 by the template 'total and deterministic' (their statements: YtfbbbefhdmimhaaTotals.lean).
  GIVEN WITH THE SEED: the statements are not yours to turn. If you find one false, say at which input.
  Laid BY PROGRAM, IN A SANDBOX (cutbox-rows.mjs): the forced cells as the released guide's own fill.sh prints them over the translation 3031e45572c8f52d… (all of the seat's roots in one cut). By AI agents, Wed Nov 11 2026. No macro, syntax, notation, axiom, sorry.
-/
import Derived.Test.YtfbbbefhdmimhaaChecked
import GoSem.Claim
import GoSem.ClaimJoined
import GoSem.ClaimMapViews
import Derived.JoinedTies
import Derived.KernelRfl
namespace Go.Proofs.Ytfbbbefhdmimhaa
/- THE CELL 'sum', in the pinned program and in every row, IS THE sha256 OF THE DUMP (.gsa) THAT YtfbbbefhdmimhaaProg.lean LOADS. Nothing in Lean hashes anything: it is a label: what it is worth is what the hold of that sum in a sandbox is worth. -/
noncomputable def Try.pinned : Pinned := { name := "ytfbbbefhdmimhaa", sum := "3031e45572c8f52d11b75bc8307f247da47ec91d63ae380cf7ea6bc01ec8149c", checked := Try.checked }
namespace Rows
def none {H : Type} : Left H := { results := [], args := [] }

/-- 'laws.FnExactAddMark': WHATEVER THE INPUT: true; the input reads as it did. -/
def fnExactAddMarkSpec : ChangeSpec := { name := "fnExactAddMark", fn := fun _ => fun
  | [d1, d2] => { results := [.lit (.bool true)], args := [d1, d2] }
  | _ => none }
def fnExactAddMarkRow : OpenClaim := { program := "ytfbbbefhdmimhaa", sum := "3031e45572c8f52d11b75bc8307f247da47ec91d63ae380cf7ea6bc01ec8149c", func := "loop.example/g01232/laws.FnExactAddMark", spec := "fnExactAddMark", recurses := true, apart := false }
def FnExactAddMarkSaid : Prop := fnExactAddMarkRow.holds Try.pinned (OpenSpec.ofChange fnExactAddMarkSpec)

/-- ITS FALSE NEIGHBOUR: 'it returns false'. Refute it at one input. -/
def fnExactAddMarkWrong : ChangeSpec := { name := "fnExactAddMark", fn := fun _ => fun
  | [d1, d2] => { results := [.lit (.bool false)], args := [d1, d2] }
  | _ => none }
def FnExactAddMarkWrongFalsely : Prop := fnExactAddMarkRow.holds Try.pinned (OpenSpec.ofChange fnExactAddMarkWrong)

/-- 'laws.FnExactFreeMarks': WHATEVER THE INPUT: true; the input reads as it did. -/
def fnExactFreeMarksSpec : ChangeSpec := { name := "fnExactFreeMarks", fn := fun _ => fun
  | [d] => { results := [.lit (.bool true)], args := [d] }
  | _ => none }
def fnExactFreeMarksRow : OpenClaim := { program := "ytfbbbefhdmimhaa", sum := "3031e45572c8f52d11b75bc8307f247da47ec91d63ae380cf7ea6bc01ec8149c", func := "loop.example/g01232/laws.FnExactFreeMarks", spec := "fnExactFreeMarks", recurses := true, apart := false }
def FnExactFreeMarksSaid : Prop := fnExactFreeMarksRow.holds Try.pinned (OpenSpec.ofChange fnExactFreeMarksSpec)

/-- ITS FALSE NEIGHBOUR: 'it returns false'. Refute it at one input. -/
def fnExactFreeMarksWrong : ChangeSpec := { name := "fnExactFreeMarks", fn := fun _ => fun
  | [d] => { results := [.lit (.bool false)], args := [d] }
  | _ => none }
def FnExactFreeMarksWrongFalsely : Prop := fnExactFreeMarksRow.holds Try.pinned (OpenSpec.ofChange fnExactFreeMarksWrong)

/-- 'laws.FnExactTimesSet': WHATEVER THE INPUT: true; the input reads as it did. -/
def fnExactTimesSetSpec : ChangeSpec := { name := "fnExactTimesSet", fn := fun _ => fun
  | [d1, d2, d3] => { results := [.lit (.bool true)], args := [d1, d2, d3] }
  | _ => none }
def fnExactTimesSetRow : OpenClaim := { program := "ytfbbbefhdmimhaa", sum := "3031e45572c8f52d11b75bc8307f247da47ec91d63ae380cf7ea6bc01ec8149c", func := "loop.example/g01232/laws.FnExactTimesSet", spec := "fnExactTimesSet", recurses := true, apart := false }
def FnExactTimesSetSaid : Prop := fnExactTimesSetRow.holds Try.pinned (OpenSpec.ofChange fnExactTimesSetSpec)

/-- ITS FALSE NEIGHBOUR: 'it returns false'. Refute it at one input. -/
def fnExactTimesSetWrong : ChangeSpec := { name := "fnExactTimesSet", fn := fun _ => fun
  | [d1, d2, d3] => { results := [.lit (.bool false)], args := [d1, d2, d3] }
  | _ => none }
def FnExactTimesSetWrongFalsely : Prop := fnExactTimesSetRow.holds Try.pinned (OpenSpec.ofChange fnExactTimesSetWrong)

/-- 'laws.FnExactMoveSet': WHATEVER THE INPUT: true; the input reads as it did. -/
def fnExactMoveSetSpec : ChangeSpec := { name := "fnExactMoveSet", fn := fun _ => fun
  | [d1, d2, d3] => { results := [.lit (.bool true)], args := [d1, d2, d3] }
  | _ => none }
def fnExactMoveSetRow : OpenClaim := { program := "ytfbbbefhdmimhaa", sum := "3031e45572c8f52d11b75bc8307f247da47ec91d63ae380cf7ea6bc01ec8149c", func := "loop.example/g01232/laws.FnExactMoveSet", spec := "fnExactMoveSet", recurses := true, apart := false }
def FnExactMoveSetSaid : Prop := fnExactMoveSetRow.holds Try.pinned (OpenSpec.ofChange fnExactMoveSetSpec)

/-- ITS FALSE NEIGHBOUR: 'it returns false'. Refute it at one input. -/
def fnExactMoveSetWrong : ChangeSpec := { name := "fnExactMoveSet", fn := fun _ => fun
  | [d1, d2, d3] => { results := [.lit (.bool false)], args := [d1, d2, d3] }
  | _ => none }
def FnExactMoveSetWrongFalsely : Prop := fnExactMoveSetRow.holds Try.pinned (OpenSpec.ofChange fnExactMoveSetWrong)

/- THE SECOND FORM. 'bulk': how many values and letters a reading holds, each counted each time it is reached (what is shared counts as often as it is met; a slice's spare places count too). A statement '..UptoSaid' is the law's where the arguments, and the package variables that the reading takes, are together of bulk at most 1048576: NARROWER than '..Said'. Prove '..Said' where nothing that the law and all that it calls make is longer than what came in: it says more and counts as full. Else prove '..UptoSaid'. A law counts once. -/
mutual
def uptoBulk {H : Type} : DataW H → Nat
  | .lit (.string bytes) => bytes.length + 1
  | .lit _ => 1
  | .nil => 1
  | .ptr d => uptoBulk d + 1
  | .slice elems spare => uptoBulkAll elems + uptoBulkAll spare + 1
  | .agg parts => uptoBulkAll parts + 1
  | .iface _ d => uptoBulk d + 1
  | .map entries => uptoBulkEntries entries + 1
  | .held _ => 1
def uptoBulkAll {H : Type} : List (DataW H) → Nat
  | [] => 0
  | d :: r => uptoBulk d + uptoBulkAll r
def uptoBulkEntries {H : Type} : List (Lit × DataW H) → Nat
  | [] => 0
  | x :: r => uptoBulkEntry x + uptoBulkEntries r
def uptoBulkEntry {H : Type} : Lit × DataW H → Nat
  | (.string bytes, d) => bytes.length + uptoBulk d + 1
  | (_, d) => uptoBulk d + 1
 end
def uptoSmall : (H : Type) → List (DataW H) → Bool := fun _ ds => decide (uptoBulkAll ds ≤ 1048576)
def OpenSpec.upto (s : _root_.Go.ChangeSpec) : _root_.Go.OpenSpec := { _root_.Go.OpenSpec.ofChange s with cond := some uptoSmall }

/-- 'laws.FnExactAddMark', WHERE WHAT IT READS IS OF BULK AT MOST 1048576: true; the input reads as it did. -/
def fnExactAddMarkUptoRow : OpenClaim := { program := "ytfbbbefhdmimhaa", sum := "3031e45572c8f52d11b75bc8307f247da47ec91d63ae380cf7ea6bc01ec8149c", func := "loop.example/g01232/laws.FnExactAddMark", spec := "fnExactAddMark", recurses := true, apart := false, narrowed := true }
def FnExactAddMarkUptoSaid : Prop := fnExactAddMarkUptoRow.holds Try.pinned (OpenSpec.upto fnExactAddMarkSpec)

/-- 'laws.FnExactFreeMarks', WHERE WHAT IT READS IS OF BULK AT MOST 1048576: true; the input reads as it did. -/
def fnExactFreeMarksUptoRow : OpenClaim := { program := "ytfbbbefhdmimhaa", sum := "3031e45572c8f52d11b75bc8307f247da47ec91d63ae380cf7ea6bc01ec8149c", func := "loop.example/g01232/laws.FnExactFreeMarks", spec := "fnExactFreeMarks", recurses := true, apart := false, narrowed := true }
def FnExactFreeMarksUptoSaid : Prop := fnExactFreeMarksUptoRow.holds Try.pinned (OpenSpec.upto fnExactFreeMarksSpec)

/-- 'laws.FnExactTimesSet', WHERE WHAT IT READS IS OF BULK AT MOST 1048576: true; the input reads as it did. -/
def fnExactTimesSetUptoRow : OpenClaim := { program := "ytfbbbefhdmimhaa", sum := "3031e45572c8f52d11b75bc8307f247da47ec91d63ae380cf7ea6bc01ec8149c", func := "loop.example/g01232/laws.FnExactTimesSet", spec := "fnExactTimesSet", recurses := true, apart := false, narrowed := true }
def FnExactTimesSetUptoSaid : Prop := fnExactTimesSetUptoRow.holds Try.pinned (OpenSpec.upto fnExactTimesSetSpec)

/-- 'laws.FnExactMoveSet', WHERE WHAT IT READS IS OF BULK AT MOST 1048576: true; the input reads as it did. -/
def fnExactMoveSetUptoRow : OpenClaim := { program := "ytfbbbefhdmimhaa", sum := "3031e45572c8f52d11b75bc8307f247da47ec91d63ae380cf7ea6bc01ec8149c", func := "loop.example/g01232/laws.FnExactMoveSet", spec := "fnExactMoveSet", recurses := true, apart := false, narrowed := true }
def FnExactMoveSetUptoSaid : Prop := fnExactMoveSetUptoRow.holds Try.pinned (OpenSpec.upto fnExactMoveSetSpec)

end Rows
end Go.Proofs.Ytfbbbefhdmimhaa
