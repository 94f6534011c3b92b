/-
  No cell of these rows narrows 'for every input' (looked for: loops, veiled, ifaces, maps, wideKeys, modest, calm, conditions, laid).
  DERIVED. THE GIVEN ROWS OF THIS SEAT. 12 by the template 'for every input the law returns true; each argument reads behind the call as it read before'; 0 by the template 'total and deterministic' (their statements: YtblcajicogigpaaTotals.lean).
  GIVEN WITH THE SEED: the statements are not yours to turn. If you find one false, say at which input.
  Laid BY PROGRAM, IN A SANDBOX (cutbox-rows.mjs): the forced cells as the released guide's own fill.sh prints them over the translation 417317d5dc68f4d2… (all of the seat's roots in one cut). By AI agents, Wed Nov 11 2026. No macro, syntax, notation, axiom, sorry.
-/
import Derived.Test.YtblcajicogigpaaChecked
import GoSem.Claim
import GoSem.ClaimJoined
import GoSem.ClaimMapViews
import Derived.JoinedTies
import Derived.KernelRfl
namespace Go.Proofs.Ytblcajicogigpaa
/- THE CELL 'sum', in the pinned program and in every row, IS THE sha256 OF THE DUMP (.gsa) THAT YtblcajicogigpaaProg.lean LOADS. Nothing in Lean hashes anything: it is a label: what it is worth is what the hold of that sum in a sandbox is worth. -/
noncomputable def Try.pinned : Pinned := { name := "ytblcajicogigpaa", sum := "417317d5dc68f4d2927b1bc66152609bec1d74b3dbcdfae0e9c6dd04e5ecdef0", checked := Try.checked }
namespace Rows
def none {H : Type} : Left H := { results := [], args := [] }

/-- 'laws.FnExactIsRingThere': WHATEVER THE INPUT: true; the input reads as it did. -/
def fnExactIsRingThereSpec : ChangeSpec := { name := "fnExactIsRingThere", fn := fun _ => fun
  | [d] => { results := [.lit (.bool true)], args := [d] }
  | _ => none }
def fnExactIsRingThereRow : OpenClaim := { program := "ytblcajicogigpaa", sum := "417317d5dc68f4d2927b1bc66152609bec1d74b3dbcdfae0e9c6dd04e5ecdef0", func := "loop.example/g01232/laws.FnExactIsRingThere", spec := "fnExactIsRingThere", apart := false }
def FnExactIsRingThereSaid : Prop := fnExactIsRingThereRow.holds Try.pinned (OpenSpec.ofChange fnExactIsRingThereSpec)

/-- ITS FALSE NEIGHBOUR: 'it returns false'. Refute it at one input. -/
def fnExactIsRingThereWrong : ChangeSpec := { name := "fnExactIsRingThere", fn := fun _ => fun
  | [d] => { results := [.lit (.bool false)], args := [d] }
  | _ => none }
def FnExactIsRingThereWrongFalsely : Prop := fnExactIsRingThereRow.holds Try.pinned (OpenSpec.ofChange fnExactIsRingThereWrong)

/-- 'laws.FnExactIsTree': WHATEVER THE INPUT: true; the input reads as it did. -/
def fnExactIsTreeSpec : ChangeSpec := { name := "fnExactIsTree", fn := fun _ => fun
  | [d] => { results := [.lit (.bool true)], args := [d] }
  | _ => none }
def fnExactIsTreeRow : OpenClaim := { program := "ytblcajicogigpaa", sum := "417317d5dc68f4d2927b1bc66152609bec1d74b3dbcdfae0e9c6dd04e5ecdef0", func := "loop.example/g01232/laws.FnExactIsTree", spec := "fnExactIsTree", apart := false }
def FnExactIsTreeSaid : Prop := fnExactIsTreeRow.holds Try.pinned (OpenSpec.ofChange fnExactIsTreeSpec)

/-- ITS FALSE NEIGHBOUR: 'it returns false'. Refute it at one input. -/
def fnExactIsTreeWrong : ChangeSpec := { name := "fnExactIsTree", fn := fun _ => fun
  | [d] => { results := [.lit (.bool false)], args := [d] }
  | _ => none }
def FnExactIsTreeWrongFalsely : Prop := fnExactIsTreeRow.holds Try.pinned (OpenSpec.ofChange fnExactIsTreeWrong)

/-- 'laws.FnExactStarTree': WHATEVER THE INPUT: true; the input reads as it did. -/
def fnExactStarTreeSpec : ChangeSpec := { name := "fnExactStarTree", fn := fun _ => fun
  | [d] => { results := [.lit (.bool true)], args := [d] }
  | _ => none }
def fnExactStarTreeRow : OpenClaim := { program := "ytblcajicogigpaa", sum := "417317d5dc68f4d2927b1bc66152609bec1d74b3dbcdfae0e9c6dd04e5ecdef0", func := "loop.example/g01232/laws.FnExactStarTree", spec := "fnExactStarTree", apart := false }
def FnExactStarTreeSaid : Prop := fnExactStarTreeRow.holds Try.pinned (OpenSpec.ofChange fnExactStarTreeSpec)

/-- ITS FALSE NEIGHBOUR: 'it returns false'. Refute it at one input. -/
def fnExactStarTreeWrong : ChangeSpec := { name := "fnExactStarTree", fn := fun _ => fun
  | [d] => { results := [.lit (.bool false)], args := [d] }
  | _ => none }
def FnExactStarTreeWrongFalsely : Prop := fnExactStarTreeRow.holds Try.pinned (OpenSpec.ofChange fnExactStarTreeWrong)

/-- 'laws.FnExactPathTree': WHATEVER THE INPUT: true; the input reads as it did. -/
def fnExactPathTreeSpec : ChangeSpec := { name := "fnExactPathTree", fn := fun _ => fun
  | [d] => { results := [.lit (.bool true)], args := [d] }
  | _ => none }
def fnExactPathTreeRow : OpenClaim := { program := "ytblcajicogigpaa", sum := "417317d5dc68f4d2927b1bc66152609bec1d74b3dbcdfae0e9c6dd04e5ecdef0", func := "loop.example/g01232/laws.FnExactPathTree", spec := "fnExactPathTree", apart := false }
def FnExactPathTreeSaid : Prop := fnExactPathTreeRow.holds Try.pinned (OpenSpec.ofChange fnExactPathTreeSpec)

/-- ITS FALSE NEIGHBOUR: 'it returns false'. Refute it at one input. -/
def fnExactPathTreeWrong : ChangeSpec := { name := "fnExactPathTree", fn := fun _ => fun
  | [d] => { results := [.lit (.bool false)], args := [d] }
  | _ => none }
def FnExactPathTreeWrongFalsely : Prop := fnExactPathTreeRow.holds Try.pinned (OpenSpec.ofChange fnExactPathTreeWrong)

/-- 'laws.FnExactIsCircleSet': WHATEVER THE INPUT: true; the input reads as it did. -/
def fnExactIsCircleSetSpec : ChangeSpec := { name := "fnExactIsCircleSet", fn := fun _ => fun
  | [d1, d2] => { results := [.lit (.bool true)], args := [d1, d2] }
  | _ => none }
def fnExactIsCircleSetRow : OpenClaim := { program := "ytblcajicogigpaa", sum := "417317d5dc68f4d2927b1bc66152609bec1d74b3dbcdfae0e9c6dd04e5ecdef0", func := "loop.example/g01232/laws.FnExactIsCircleSet", spec := "fnExactIsCircleSet", apart := false }
def FnExactIsCircleSetSaid : Prop := fnExactIsCircleSetRow.holds Try.pinned (OpenSpec.ofChange fnExactIsCircleSetSpec)

/-- ITS FALSE NEIGHBOUR: 'it returns false'. Refute it at one input. -/
def fnExactIsCircleSetWrong : ChangeSpec := { name := "fnExactIsCircleSet", fn := fun _ => fun
  | [d1, d2] => { results := [.lit (.bool false)], args := [d1, d2] }
  | _ => none }
def FnExactIsCircleSetWrongFalsely : Prop := fnExactIsCircleSetRow.holds Try.pinned (OpenSpec.ofChange fnExactIsCircleSetWrong)

/-- 'laws.FnExactIsRoot': WHATEVER THE INPUT: true; the input reads as it did. -/
def fnExactIsRootSpec : ChangeSpec := { name := "fnExactIsRoot", fn := fun _ => fun
  | [d1, d2] => { results := [.lit (.bool true)], args := [d1, d2] }
  | _ => none }
def fnExactIsRootRow : OpenClaim := { program := "ytblcajicogigpaa", sum := "417317d5dc68f4d2927b1bc66152609bec1d74b3dbcdfae0e9c6dd04e5ecdef0", func := "loop.example/g01232/laws.FnExactIsRoot", spec := "fnExactIsRoot", apart := false }
def FnExactIsRootSaid : Prop := fnExactIsRootRow.holds Try.pinned (OpenSpec.ofChange fnExactIsRootSpec)

/-- ITS FALSE NEIGHBOUR: 'it returns false'. Refute it at one input. -/
def fnExactIsRootWrong : ChangeSpec := { name := "fnExactIsRoot", fn := fun _ => fun
  | [d1, d2] => { results := [.lit (.bool false)], args := [d1, d2] }
  | _ => none }
def FnExactIsRootWrongFalsely : Prop := fnExactIsRootRow.holds Try.pinned (OpenSpec.ofChange fnExactIsRootWrong)

/-- 'laws.FnExactIsDots': WHATEVER THE INPUT: true; the input reads as it did. -/
def fnExactIsDotsSpec : ChangeSpec := { name := "fnExactIsDots", fn := fun _ => fun
  | [d] => { results := [.lit (.bool true)], args := [d] }
  | _ => none }
def fnExactIsDotsRow : OpenClaim := { program := "ytblcajicogigpaa", sum := "417317d5dc68f4d2927b1bc66152609bec1d74b3dbcdfae0e9c6dd04e5ecdef0", func := "loop.example/g01232/laws.FnExactIsDots", spec := "fnExactIsDots", apart := false }
def FnExactIsDotsSaid : Prop := fnExactIsDotsRow.holds Try.pinned (OpenSpec.ofChange fnExactIsDotsSpec)

/-- ITS FALSE NEIGHBOUR: 'it returns false'. Refute it at one input. -/
def fnExactIsDotsWrong : ChangeSpec := { name := "fnExactIsDots", fn := fun _ => fun
  | [d] => { results := [.lit (.bool false)], args := [d] }
  | _ => none }
def FnExactIsDotsWrongFalsely : Prop := fnExactIsDotsRow.holds Try.pinned (OpenSpec.ofChange fnExactIsDotsWrong)

/-- 'laws.FnExactEchoAt': WHATEVER THE INPUT: true; the input reads as it did. -/
def fnExactEchoAtSpec : ChangeSpec := { name := "fnExactEchoAt", fn := fun _ => fun
  | [d1, d2, d3] => { results := [.lit (.bool true)], args := [d1, d2, d3] }
  | _ => none }
def fnExactEchoAtRow : OpenClaim := { program := "ytblcajicogigpaa", sum := "417317d5dc68f4d2927b1bc66152609bec1d74b3dbcdfae0e9c6dd04e5ecdef0", func := "loop.example/g01232/laws.FnExactEchoAt", spec := "fnExactEchoAt", apart := false }
def FnExactEchoAtSaid : Prop := fnExactEchoAtRow.holds Try.pinned (OpenSpec.ofChange fnExactEchoAtSpec)

/-- ITS FALSE NEIGHBOUR: 'it returns false'. Refute it at one input. -/
def fnExactEchoAtWrong : ChangeSpec := { name := "fnExactEchoAt", fn := fun _ => fun
  | [d1, d2, d3] => { results := [.lit (.bool false)], args := [d1, d2, d3] }
  | _ => none }
def FnExactEchoAtWrongFalsely : Prop := fnExactEchoAtRow.holds Try.pinned (OpenSpec.ofChange fnExactEchoAtWrong)

/-- 'laws.FnExactStepsOfSet': WHATEVER THE INPUT: true; the input reads as it did. -/
def fnExactStepsOfSetSpec : ChangeSpec := { name := "fnExactStepsOfSet", fn := fun _ => fun
  | [d1, d2] => { results := [.lit (.bool true)], args := [d1, d2] }
  | _ => none }
def fnExactStepsOfSetRow : OpenClaim := { program := "ytblcajicogigpaa", sum := "417317d5dc68f4d2927b1bc66152609bec1d74b3dbcdfae0e9c6dd04e5ecdef0", func := "loop.example/g01232/laws.FnExactStepsOfSet", spec := "fnExactStepsOfSet", apart := false }
def FnExactStepsOfSetSaid : Prop := fnExactStepsOfSetRow.holds Try.pinned (OpenSpec.ofChange fnExactStepsOfSetSpec)

/-- ITS FALSE NEIGHBOUR: 'it returns false'. Refute it at one input. -/
def fnExactStepsOfSetWrong : ChangeSpec := { name := "fnExactStepsOfSet", fn := fun _ => fun
  | [d1, d2] => { results := [.lit (.bool false)], args := [d1, d2] }
  | _ => none }
def FnExactStepsOfSetWrongFalsely : Prop := fnExactStepsOfSetRow.holds Try.pinned (OpenSpec.ofChange fnExactStepsOfSetWrong)

/-- 'laws.FnExactIsWhole': WHATEVER THE INPUT: true; the input reads as it did. -/
def fnExactIsWholeSpec : ChangeSpec := { name := "fnExactIsWhole", fn := fun _ => fun
  | [d] => { results := [.lit (.bool true)], args := [d] }
  | _ => none }
def fnExactIsWholeRow : OpenClaim := { program := "ytblcajicogigpaa", sum := "417317d5dc68f4d2927b1bc66152609bec1d74b3dbcdfae0e9c6dd04e5ecdef0", func := "loop.example/g01232/laws.FnExactIsWhole", spec := "fnExactIsWhole", apart := false }
def FnExactIsWholeSaid : Prop := fnExactIsWholeRow.holds Try.pinned (OpenSpec.ofChange fnExactIsWholeSpec)

/-- ITS FALSE NEIGHBOUR: 'it returns false'. Refute it at one input. -/
def fnExactIsWholeWrong : ChangeSpec := { name := "fnExactIsWhole", fn := fun _ => fun
  | [d] => { results := [.lit (.bool false)], args := [d] }
  | _ => none }
def FnExactIsWholeWrongFalsely : Prop := fnExactIsWholeRow.holds Try.pinned (OpenSpec.ofChange fnExactIsWholeWrong)

/-- 'laws.FnExactCrossDots': WHATEVER THE INPUT: true; the input reads as it did. -/
def fnExactCrossDotsSpec : ChangeSpec := { name := "fnExactCrossDots", fn := fun _ => fun
  | [d] => { results := [.lit (.bool true)], args := [d] }
  | _ => none }
def fnExactCrossDotsRow : OpenClaim := { program := "ytblcajicogigpaa", sum := "417317d5dc68f4d2927b1bc66152609bec1d74b3dbcdfae0e9c6dd04e5ecdef0", func := "loop.example/g01232/laws.FnExactCrossDots", spec := "fnExactCrossDots", apart := false }
def FnExactCrossDotsSaid : Prop := fnExactCrossDotsRow.holds Try.pinned (OpenSpec.ofChange fnExactCrossDotsSpec)

/-- ITS FALSE NEIGHBOUR: 'it returns false'. Refute it at one input. -/
def fnExactCrossDotsWrong : ChangeSpec := { name := "fnExactCrossDots", fn := fun _ => fun
  | [d] => { results := [.lit (.bool false)], args := [d] }
  | _ => none }
def FnExactCrossDotsWrongFalsely : Prop := fnExactCrossDotsRow.holds Try.pinned (OpenSpec.ofChange fnExactCrossDotsWrong)

/-- 'laws.FnExactDropCorner': WHATEVER THE INPUT: true; the input reads as it did. -/
def fnExactDropCornerSpec : ChangeSpec := { name := "fnExactDropCorner", fn := fun _ => fun
  | [d] => { results := [.lit (.bool true)], args := [d] }
  | _ => none }
def fnExactDropCornerRow : OpenClaim := { program := "ytblcajicogigpaa", sum := "417317d5dc68f4d2927b1bc66152609bec1d74b3dbcdfae0e9c6dd04e5ecdef0", func := "loop.example/g01232/laws.FnExactDropCorner", spec := "fnExactDropCorner", apart := false }
def FnExactDropCornerSaid : Prop := fnExactDropCornerRow.holds Try.pinned (OpenSpec.ofChange fnExactDropCornerSpec)

/-- ITS FALSE NEIGHBOUR: 'it returns false'. Refute it at one input. -/
def fnExactDropCornerWrong : ChangeSpec := { name := "fnExactDropCorner", fn := fun _ => fun
  | [d] => { results := [.lit (.bool false)], args := [d] }
  | _ => none }
def FnExactDropCornerWrongFalsely : Prop := fnExactDropCornerRow.holds Try.pinned (OpenSpec.ofChange fnExactDropCornerWrong)

/- THE SECOND FORM. 'bulk': how many values and letters a reading holds, each counted each time it is reached (what is shared counts as often as it is met; a slice's spare places count too). A statement '..UptoSaid' is the law's where the arguments, and the package variables that the reading takes, are together of bulk at most 1048576: NARROWER than '..Said'. Prove '..Said' where nothing that the law and all that it calls make is longer than what came in: it says more and counts as full. Else prove '..UptoSaid'. A law counts once. -/
mutual
def uptoBulk {H : Type} : DataW H → Nat
  | .lit (.string bytes) => bytes.length + 1
  | .lit _ => 1
  | .nil => 1
  | .ptr d => uptoBulk d + 1
  | .slice elems spare => uptoBulkAll elems + uptoBulkAll spare + 1
  | .agg parts => uptoBulkAll parts + 1
  | .iface _ d => uptoBulk d + 1
  | .map entries => uptoBulkEntries entries + 1
  | .held _ => 1
def uptoBulkAll {H : Type} : List (DataW H) → Nat
  | [] => 0
  | d :: r => uptoBulk d + uptoBulkAll r
def uptoBulkEntries {H : Type} : List (Lit × DataW H) → Nat
  | [] => 0
  | x :: r => uptoBulkEntry x + uptoBulkEntries r
def uptoBulkEntry {H : Type} : Lit × DataW H → Nat
  | (.string bytes, d) => bytes.length + uptoBulk d + 1
  | (_, d) => uptoBulk d + 1
 end
def uptoSmall : (H : Type) → List (DataW H) → Bool := fun _ ds => decide (uptoBulkAll ds ≤ 1048576)
def OpenSpec.upto (s : _root_.Go.ChangeSpec) : _root_.Go.OpenSpec := { _root_.Go.OpenSpec.ofChange s with cond := some uptoSmall }

/-- 'laws.FnExactIsRingThere', WHERE WHAT IT READS IS OF BULK AT MOST 1048576: true; the input reads as it did. -/
def fnExactIsRingThereUptoRow : OpenClaim := { program := "ytblcajicogigpaa", sum := "417317d5dc68f4d2927b1bc66152609bec1d74b3dbcdfae0e9c6dd04e5ecdef0", func := "loop.example/g01232/laws.FnExactIsRingThere", spec := "fnExactIsRingThere", apart := false, narrowed := true }
def FnExactIsRingThereUptoSaid : Prop := fnExactIsRingThereUptoRow.holds Try.pinned (OpenSpec.upto fnExactIsRingThereSpec)

/-- 'laws.FnExactIsTree', WHERE WHAT IT READS IS OF BULK AT MOST 1048576: true; the input reads as it did. -/
def fnExactIsTreeUptoRow : OpenClaim := { program := "ytblcajicogigpaa", sum := "417317d5dc68f4d2927b1bc66152609bec1d74b3dbcdfae0e9c6dd04e5ecdef0", func := "loop.example/g01232/laws.FnExactIsTree", spec := "fnExactIsTree", apart := false, narrowed := true }
def FnExactIsTreeUptoSaid : Prop := fnExactIsTreeUptoRow.holds Try.pinned (OpenSpec.upto fnExactIsTreeSpec)

/-- 'laws.FnExactStarTree', WHERE WHAT IT READS IS OF BULK AT MOST 1048576: true; the input reads as it did. -/
def fnExactStarTreeUptoRow : OpenClaim := { program := "ytblcajicogigpaa", sum := "417317d5dc68f4d2927b1bc66152609bec1d74b3dbcdfae0e9c6dd04e5ecdef0", func := "loop.example/g01232/laws.FnExactStarTree", spec := "fnExactStarTree", apart := false, narrowed := true }
def FnExactStarTreeUptoSaid : Prop := fnExactStarTreeUptoRow.holds Try.pinned (OpenSpec.upto fnExactStarTreeSpec)

/-- 'laws.FnExactPathTree', WHERE WHAT IT READS IS OF BULK AT MOST 1048576: true; the input reads as it did. -/
def fnExactPathTreeUptoRow : OpenClaim := { program := "ytblcajicogigpaa", sum := "417317d5dc68f4d2927b1bc66152609bec1d74b3dbcdfae0e9c6dd04e5ecdef0", func := "loop.example/g01232/laws.FnExactPathTree", spec := "fnExactPathTree", apart := false, narrowed := true }
def FnExactPathTreeUptoSaid : Prop := fnExactPathTreeUptoRow.holds Try.pinned (OpenSpec.upto fnExactPathTreeSpec)

/-- 'laws.FnExactIsCircleSet', WHERE WHAT IT READS IS OF BULK AT MOST 1048576: true; the input reads as it did. -/
def fnExactIsCircleSetUptoRow : OpenClaim := { program := "ytblcajicogigpaa", sum := "417317d5dc68f4d2927b1bc66152609bec1d74b3dbcdfae0e9c6dd04e5ecdef0", func := "loop.example/g01232/laws.FnExactIsCircleSet", spec := "fnExactIsCircleSet", apart := false, narrowed := true }
def FnExactIsCircleSetUptoSaid : Prop := fnExactIsCircleSetUptoRow.holds Try.pinned (OpenSpec.upto fnExactIsCircleSetSpec)

/-- 'laws.FnExactIsRoot', WHERE WHAT IT READS IS OF BULK AT MOST 1048576: true; the input reads as it did. -/
def fnExactIsRootUptoRow : OpenClaim := { program := "ytblcajicogigpaa", sum := "417317d5dc68f4d2927b1bc66152609bec1d74b3dbcdfae0e9c6dd04e5ecdef0", func := "loop.example/g01232/laws.FnExactIsRoot", spec := "fnExactIsRoot", apart := false, narrowed := true }
def FnExactIsRootUptoSaid : Prop := fnExactIsRootUptoRow.holds Try.pinned (OpenSpec.upto fnExactIsRootSpec)

/-- 'laws.FnExactIsDots', WHERE WHAT IT READS IS OF BULK AT MOST 1048576: true; the input reads as it did. -/
def fnExactIsDotsUptoRow : OpenClaim := { program := "ytblcajicogigpaa", sum := "417317d5dc68f4d2927b1bc66152609bec1d74b3dbcdfae0e9c6dd04e5ecdef0", func := "loop.example/g01232/laws.FnExactIsDots", spec := "fnExactIsDots", apart := false, narrowed := true }
def FnExactIsDotsUptoSaid : Prop := fnExactIsDotsUptoRow.holds Try.pinned (OpenSpec.upto fnExactIsDotsSpec)

/-- 'laws.FnExactEchoAt', WHERE WHAT IT READS IS OF BULK AT MOST 1048576: true; the input reads as it did. -/
def fnExactEchoAtUptoRow : OpenClaim := { program := "ytblcajicogigpaa", sum := "417317d5dc68f4d2927b1bc66152609bec1d74b3dbcdfae0e9c6dd04e5ecdef0", func := "loop.example/g01232/laws.FnExactEchoAt", spec := "fnExactEchoAt", apart := false, narrowed := true }
def FnExactEchoAtUptoSaid : Prop := fnExactEchoAtUptoRow.holds Try.pinned (OpenSpec.upto fnExactEchoAtSpec)

/-- 'laws.FnExactStepsOfSet', WHERE WHAT IT READS IS OF BULK AT MOST 1048576: true; the input reads as it did. -/
def fnExactStepsOfSetUptoRow : OpenClaim := { program := "ytblcajicogigpaa", sum := "417317d5dc68f4d2927b1bc66152609bec1d74b3dbcdfae0e9c6dd04e5ecdef0", func := "loop.example/g01232/laws.FnExactStepsOfSet", spec := "fnExactStepsOfSet", apart := false, narrowed := true }
def FnExactStepsOfSetUptoSaid : Prop := fnExactStepsOfSetUptoRow.holds Try.pinned (OpenSpec.upto fnExactStepsOfSetSpec)

/-- 'laws.FnExactIsWhole', WHERE WHAT IT READS IS OF BULK AT MOST 1048576: true; the input reads as it did. -/
def fnExactIsWholeUptoRow : OpenClaim := { program := "ytblcajicogigpaa", sum := "417317d5dc68f4d2927b1bc66152609bec1d74b3dbcdfae0e9c6dd04e5ecdef0", func := "loop.example/g01232/laws.FnExactIsWhole", spec := "fnExactIsWhole", apart := false, narrowed := true }
def FnExactIsWholeUptoSaid : Prop := fnExactIsWholeUptoRow.holds Try.pinned (OpenSpec.upto fnExactIsWholeSpec)

/-- 'laws.FnExactCrossDots', WHERE WHAT IT READS IS OF BULK AT MOST 1048576: true; the input reads as it did. -/
def fnExactCrossDotsUptoRow : OpenClaim := { program := "ytblcajicogigpaa", sum := "417317d5dc68f4d2927b1bc66152609bec1d74b3dbcdfae0e9c6dd04e5ecdef0", func := "loop.example/g01232/laws.FnExactCrossDots", spec := "fnExactCrossDots", apart := false, narrowed := true }
def FnExactCrossDotsUptoSaid : Prop := fnExactCrossDotsUptoRow.holds Try.pinned (OpenSpec.upto fnExactCrossDotsSpec)

/-- 'laws.FnExactDropCorner', WHERE WHAT IT READS IS OF BULK AT MOST 1048576: true; the input reads as it did. -/
def fnExactDropCornerUptoRow : OpenClaim := { program := "ytblcajicogigpaa", sum := "417317d5dc68f4d2927b1bc66152609bec1d74b3dbcdfae0e9c6dd04e5ecdef0", func := "loop.example/g01232/laws.FnExactDropCorner", spec := "fnExactDropCorner", apart := false, narrowed := true }
def FnExactDropCornerUptoSaid : Prop := fnExactDropCornerUptoRow.holds Try.pinned (OpenSpec.upto fnExactDropCornerSpec)

end Rows
end Go.Proofs.Ytblcajicogigpaa
