/-
  No cell of these rows narrows 'for every input' (looked for: loops, veiled, ifaces, maps, wideKeys, modest, calm, conditions, laid).
  DERIVED. THE GIVEN ROWS OF THIS SEAT. 12 by the template 'for every input the law returns true; each argument reads behind the call as it read before'; 0 by the template 'total and deterministic' (their statements: YthjbgfpoalehlaaTotals.lean).
  GIVEN WITH THE SEED: the statements are not yours to turn. If you find one false, say at which input.
  Laid BY PROGRAM, IN A SANDBOX (cutbox-rows.mjs): the forced cells as the released guide's own fill.sh prints them over the translation 201b65b65e0dc52c… (all of the seat's roots in one cut). By AI agents, Wed Nov 11 2026. No macro, syntax, notation, axiom, sorry.
-/
import Derived.Test.YthjbgfpoalehlaaChecked
import GoSem.Claim
import GoSem.ClaimJoined
import GoSem.ClaimMapViews
import Derived.JoinedTies
import Derived.KernelRfl
namespace Go.Proofs.Ythjbgfpoalehlaa
/- THE CELL 'sum', in the pinned program and in every row, IS THE sha256 OF THE DUMP (.gsa) THAT YthjbgfpoalehlaaProg.lean LOADS. Nothing in Lean hashes anything: it is a label: what it is worth is what the hold of that sum in a sandbox is worth. -/
noncomputable def Try.pinned : Pinned := { name := "ythjbgfpoalehlaa", sum := "201b65b65e0dc52c0d1c9ee87c0455b33e643ba2f251691588d30d7529813c92", checked := Try.checked }
namespace Rows
def none {H : Type} : Left H := { results := [], args := [] }

/-- 'laws.FnExactDifferenceCounts': WHATEVER THE INPUT: true; the input reads as it did. -/
def fnExactDifferenceCountsSpec : ChangeSpec := { name := "fnExactDifferenceCounts", fn := fun _ => fun
  | [d1, d2] => { results := [.lit (.bool true)], args := [d1, d2] }
  | _ => none }
def fnExactDifferenceCountsRow : OpenClaim := { program := "ythjbgfpoalehlaa", sum := "201b65b65e0dc52c0d1c9ee87c0455b33e643ba2f251691588d30d7529813c92", func := "loop.example/g01232/laws.FnExactDifferenceCounts", spec := "fnExactDifferenceCounts", apart := false }
def FnExactDifferenceCountsSaid : Prop := fnExactDifferenceCountsRow.holds Try.pinned (OpenSpec.ofChange fnExactDifferenceCountsSpec)

/-- ITS FALSE NEIGHBOUR: 'it returns false'. Refute it at one input. -/
def fnExactDifferenceCountsWrong : ChangeSpec := { name := "fnExactDifferenceCounts", fn := fun _ => fun
  | [d1, d2] => { results := [.lit (.bool false)], args := [d1, d2] }
  | _ => none }
def FnExactDifferenceCountsWrongFalsely : Prop := fnExactDifferenceCountsRow.holds Try.pinned (OpenSpec.ofChange fnExactDifferenceCountsWrong)

/-- 'laws.FnExactIsDifferenceSet': WHATEVER THE INPUT: true; the input reads as it did. -/
def fnExactIsDifferenceSetSpec : ChangeSpec := { name := "fnExactIsDifferenceSet", fn := fun _ => fun
  | [d1, d2] => { results := [.lit (.bool true)], args := [d1, d2] }
  | _ => none }
def fnExactIsDifferenceSetRow : OpenClaim := { program := "ythjbgfpoalehlaa", sum := "201b65b65e0dc52c0d1c9ee87c0455b33e643ba2f251691588d30d7529813c92", func := "loop.example/g01232/laws.FnExactIsDifferenceSet", spec := "fnExactIsDifferenceSet", apart := false }
def FnExactIsDifferenceSetSaid : Prop := fnExactIsDifferenceSetRow.holds Try.pinned (OpenSpec.ofChange fnExactIsDifferenceSetSpec)

/-- ITS FALSE NEIGHBOUR: 'it returns false'. Refute it at one input. -/
def fnExactIsDifferenceSetWrong : ChangeSpec := { name := "fnExactIsDifferenceSet", fn := fun _ => fun
  | [d1, d2] => { results := [.lit (.bool false)], args := [d1, d2] }
  | _ => none }
def FnExactIsDifferenceSetWrongFalsely : Prop := fnExactIsDifferenceSetRow.holds Try.pinned (OpenSpec.ofChange fnExactIsDifferenceSetWrong)

/-- 'laws.FnExactFirstRepeat': WHATEVER THE INPUT: true; the input reads as it did. -/
def fnExactFirstRepeatSpec : ChangeSpec := { name := "fnExactFirstRepeat", fn := fun _ => fun
  | [d] => { results := [.lit (.bool true)], args := [d] }
  | _ => none }
def fnExactFirstRepeatRow : OpenClaim := { program := "ythjbgfpoalehlaa", sum := "201b65b65e0dc52c0d1c9ee87c0455b33e643ba2f251691588d30d7529813c92", func := "loop.example/g01232/laws.FnExactFirstRepeat", spec := "fnExactFirstRepeat", apart := false }
def FnExactFirstRepeatSaid : Prop := fnExactFirstRepeatRow.holds Try.pinned (OpenSpec.ofChange fnExactFirstRepeatSpec)

/-- ITS FALSE NEIGHBOUR: 'it returns false'. Refute it at one input. -/
def fnExactFirstRepeatWrong : ChangeSpec := { name := "fnExactFirstRepeat", fn := fun _ => fun
  | [d] => { results := [.lit (.bool false)], args := [d] }
  | _ => none }
def FnExactFirstRepeatWrongFalsely : Prop := fnExactFirstRepeatRow.holds Try.pinned (OpenSpec.ofChange fnExactFirstRepeatWrong)

/-- 'laws.FnExactLambdaOf': WHATEVER THE INPUT: true; the input reads as it did. -/
def fnExactLambdaOfSpec : ChangeSpec := { name := "fnExactLambdaOf", fn := fun _ => fun
  | [d1, d2] => { results := [.lit (.bool true)], args := [d1, d2] }
  | _ => none }
def fnExactLambdaOfRow : OpenClaim := { program := "ythjbgfpoalehlaa", sum := "201b65b65e0dc52c0d1c9ee87c0455b33e643ba2f251691588d30d7529813c92", func := "loop.example/g01232/laws.FnExactLambdaOf", spec := "fnExactLambdaOf", apart := false }
def FnExactLambdaOfSaid : Prop := fnExactLambdaOfRow.holds Try.pinned (OpenSpec.ofChange fnExactLambdaOfSpec)

/-- ITS FALSE NEIGHBOUR: 'it returns false'. Refute it at one input. -/
def fnExactLambdaOfWrong : ChangeSpec := { name := "fnExactLambdaOf", fn := fun _ => fun
  | [d1, d2] => { results := [.lit (.bool false)], args := [d1, d2] }
  | _ => none }
def FnExactLambdaOfWrongFalsely : Prop := fnExactLambdaOfRow.holds Try.pinned (OpenSpec.ofChange fnExactLambdaOfWrong)

/-- 'laws.FnExactLogsDots': WHATEVER THE INPUT: true; the input reads as it did. -/
def fnExactLogsDotsSpec : ChangeSpec := { name := "fnExactLogsDots", fn := fun _ => fun
  | [d1, d2, d3] => { results := [.lit (.bool true)], args := [d1, d2, d3] }
  | _ => none }
def fnExactLogsDotsRow : OpenClaim := { program := "ythjbgfpoalehlaa", sum := "201b65b65e0dc52c0d1c9ee87c0455b33e643ba2f251691588d30d7529813c92", func := "loop.example/g01232/laws.FnExactLogsDots", spec := "fnExactLogsDots", apart := false }
def FnExactLogsDotsSaid : Prop := fnExactLogsDotsRow.holds Try.pinned (OpenSpec.ofChange fnExactLogsDotsSpec)

/-- ITS FALSE NEIGHBOUR: 'it returns false'. Refute it at one input. -/
def fnExactLogsDotsWrong : ChangeSpec := { name := "fnExactLogsDots", fn := fun _ => fun
  | [d1, d2, d3] => { results := [.lit (.bool false)], args := [d1, d2, d3] }
  | _ => none }
def FnExactLogsDotsWrongFalsely : Prop := fnExactLogsDotsRow.holds Try.pinned (OpenSpec.ofChange fnExactLogsDotsWrong)

/-- 'laws.FnExactMirrorDots': WHATEVER THE INPUT: true; the input reads as it did. -/
def fnExactMirrorDotsSpec : ChangeSpec := { name := "fnExactMirrorDots", fn := fun _ => fun
  | [d] => { results := [.lit (.bool true)], args := [d] }
  | _ => none }
def fnExactMirrorDotsRow : OpenClaim := { program := "ythjbgfpoalehlaa", sum := "201b65b65e0dc52c0d1c9ee87c0455b33e643ba2f251691588d30d7529813c92", func := "loop.example/g01232/laws.FnExactMirrorDots", spec := "fnExactMirrorDots", apart := false }
def FnExactMirrorDotsSaid : Prop := fnExactMirrorDotsRow.holds Try.pinned (OpenSpec.ofChange fnExactMirrorDotsSpec)

/-- ITS FALSE NEIGHBOUR: 'it returns false'. Refute it at one input. -/
def fnExactMirrorDotsWrong : ChangeSpec := { name := "fnExactMirrorDots", fn := fun _ => fun
  | [d] => { results := [.lit (.bool false)], args := [d] }
  | _ => none }
def FnExactMirrorDotsWrongFalsely : Prop := fnExactMirrorDotsRow.holds Try.pinned (OpenSpec.ofChange fnExactMirrorDotsWrong)

/-- 'laws.FnExactRulerOfRow': WHATEVER THE INPUT: true; the input reads as it did. -/
def fnExactRulerOfRowSpec : ChangeSpec := { name := "fnExactRulerOfRow", fn := fun _ => fun
  | [d] => { results := [.lit (.bool true)], args := [d] }
  | _ => none }
def fnExactRulerOfRowRow : OpenClaim := { program := "ythjbgfpoalehlaa", sum := "201b65b65e0dc52c0d1c9ee87c0455b33e643ba2f251691588d30d7529813c92", func := "loop.example/g01232/laws.FnExactRulerOfRow", spec := "fnExactRulerOfRow", apart := false }
def FnExactRulerOfRowSaid : Prop := fnExactRulerOfRowRow.holds Try.pinned (OpenSpec.ofChange fnExactRulerOfRowSpec)

/-- ITS FALSE NEIGHBOUR: 'it returns false'. Refute it at one input. -/
def fnExactRulerOfRowWrong : ChangeSpec := { name := "fnExactRulerOfRow", fn := fun _ => fun
  | [d] => { results := [.lit (.bool false)], args := [d] }
  | _ => none }
def FnExactRulerOfRowWrongFalsely : Prop := fnExactRulerOfRowRow.holds Try.pinned (OpenSpec.ofChange fnExactRulerOfRowWrong)

/-- 'laws.FnExactComplementSet': WHATEVER THE INPUT: true; the input reads as it did. -/
def fnExactComplementSetSpec : ChangeSpec := { name := "fnExactComplementSet", fn := fun _ => fun
  | [d1, d2] => { results := [.lit (.bool true)], args := [d1, d2] }
  | _ => none }
def fnExactComplementSetRow : OpenClaim := { program := "ythjbgfpoalehlaa", sum := "201b65b65e0dc52c0d1c9ee87c0455b33e643ba2f251691588d30d7529813c92", func := "loop.example/g01232/laws.FnExactComplementSet", spec := "fnExactComplementSet", apart := false }
def FnExactComplementSetSaid : Prop := fnExactComplementSetRow.holds Try.pinned (OpenSpec.ofChange fnExactComplementSetSpec)

/-- ITS FALSE NEIGHBOUR: 'it returns false'. Refute it at one input. -/
def fnExactComplementSetWrong : ChangeSpec := { name := "fnExactComplementSet", fn := fun _ => fun
  | [d1, d2] => { results := [.lit (.bool false)], args := [d1, d2] }
  | _ => none }
def FnExactComplementSetWrongFalsely : Prop := fnExactComplementSetRow.holds Try.pinned (OpenSpec.ofChange fnExactComplementSetWrong)

/-- 'laws.FnExactIsCostas': WHATEVER THE INPUT: true; the input reads as it did. -/
def fnExactIsCostasSpec : ChangeSpec := { name := "fnExactIsCostas", fn := fun _ => fun
  | [d] => { results := [.lit (.bool true)], args := [d] }
  | _ => none }
def fnExactIsCostasRow : OpenClaim := { program := "ythjbgfpoalehlaa", sum := "201b65b65e0dc52c0d1c9ee87c0455b33e643ba2f251691588d30d7529813c92", func := "loop.example/g01232/laws.FnExactIsCostas", spec := "fnExactIsCostas", apart := false }
def FnExactIsCostasSaid : Prop := fnExactIsCostasRow.holds Try.pinned (OpenSpec.ofChange fnExactIsCostasSpec)

/-- ITS FALSE NEIGHBOUR: 'it returns false'. Refute it at one input. -/
def fnExactIsCostasWrong : ChangeSpec := { name := "fnExactIsCostas", fn := fun _ => fun
  | [d] => { results := [.lit (.bool false)], args := [d] }
  | _ => none }
def FnExactIsCostasWrongFalsely : Prop := fnExactIsCostasRow.holds Try.pinned (OpenSpec.ofChange fnExactIsCostasWrong)

/-- 'laws.FnExactFirstRing': WHATEVER THE INPUT: true; the input reads as it did. -/
def fnExactFirstRingSpec : ChangeSpec := { name := "fnExactFirstRing", fn := fun _ => fun
  | [d] => { results := [.lit (.bool true)], args := [d] }
  | _ => none }
def fnExactFirstRingRow : OpenClaim := { program := "ythjbgfpoalehlaa", sum := "201b65b65e0dc52c0d1c9ee87c0455b33e643ba2f251691588d30d7529813c92", func := "loop.example/g01232/laws.FnExactFirstRing", spec := "fnExactFirstRing", recurses := true, apart := false }
def FnExactFirstRingSaid : Prop := fnExactFirstRingRow.holds Try.pinned (OpenSpec.ofChange fnExactFirstRingSpec)

/-- ITS FALSE NEIGHBOUR: 'it returns false'. Refute it at one input. -/
def fnExactFirstRingWrong : ChangeSpec := { name := "fnExactFirstRing", fn := fun _ => fun
  | [d] => { results := [.lit (.bool false)], args := [d] }
  | _ => none }
def FnExactFirstRingWrongFalsely : Prop := fnExactFirstRingRow.holds Try.pinned (OpenSpec.ofChange fnExactFirstRingWrong)

/-- 'laws.FnExactEdgeLabels': WHATEVER THE INPUT: true; the input reads as it did. -/
def fnExactEdgeLabelsSpec : ChangeSpec := { name := "fnExactEdgeLabels", fn := fun _ => fun
  | [d1, d2] => { results := [.lit (.bool true)], args := [d1, d2] }
  | _ => none }
def fnExactEdgeLabelsRow : OpenClaim := { program := "ythjbgfpoalehlaa", sum := "201b65b65e0dc52c0d1c9ee87c0455b33e643ba2f251691588d30d7529813c92", func := "loop.example/g01232/laws.FnExactEdgeLabels", spec := "fnExactEdgeLabels", apart := false }
def FnExactEdgeLabelsSaid : Prop := fnExactEdgeLabelsRow.holds Try.pinned (OpenSpec.ofChange fnExactEdgeLabelsSpec)

/-- ITS FALSE NEIGHBOUR: 'it returns false'. Refute it at one input. -/
def fnExactEdgeLabelsWrong : ChangeSpec := { name := "fnExactEdgeLabels", fn := fun _ => fun
  | [d1, d2] => { results := [.lit (.bool false)], args := [d1, d2] }
  | _ => none }
def FnExactEdgeLabelsWrongFalsely : Prop := fnExactEdgeLabelsRow.holds Try.pinned (OpenSpec.ofChange fnExactEdgeLabelsWrong)

/-- 'laws.FnExactIsGraceful': WHATEVER THE INPUT: true; the input reads as it did. -/
def fnExactIsGracefulSpec : ChangeSpec := { name := "fnExactIsGraceful", fn := fun _ => fun
  | [d1, d2] => { results := [.lit (.bool true)], args := [d1, d2] }
  | _ => none }
def fnExactIsGracefulRow : OpenClaim := { program := "ythjbgfpoalehlaa", sum := "201b65b65e0dc52c0d1c9ee87c0455b33e643ba2f251691588d30d7529813c92", func := "loop.example/g01232/laws.FnExactIsGraceful", spec := "fnExactIsGraceful", apart := false }
def FnExactIsGracefulSaid : Prop := fnExactIsGracefulRow.holds Try.pinned (OpenSpec.ofChange fnExactIsGracefulSpec)

/-- ITS FALSE NEIGHBOUR: 'it returns false'. Refute it at one input. -/
def fnExactIsGracefulWrong : ChangeSpec := { name := "fnExactIsGraceful", fn := fun _ => fun
  | [d1, d2] => { results := [.lit (.bool false)], args := [d1, d2] }
  | _ => none }
def FnExactIsGracefulWrongFalsely : Prop := fnExactIsGracefulRow.holds Try.pinned (OpenSpec.ofChange fnExactIsGracefulWrong)

/- THE SECOND FORM. 'bulk': how many values and letters a reading holds, each counted each time it is reached (what is shared counts as often as it is met; a slice's spare places count too). A statement '..UptoSaid' is the law's where the arguments, and the package variables that the reading takes, are together of bulk at most 1048576: NARROWER than '..Said'. Prove '..Said' where nothing that the law and all that it calls make is longer than what came in: it says more and counts as full. Else prove '..UptoSaid'. A law counts once. -/
mutual
def uptoBulk {H : Type} : DataW H → Nat
  | .lit (.string bytes) => bytes.length + 1
  | .lit _ => 1
  | .nil => 1
  | .ptr d => uptoBulk d + 1
  | .slice elems spare => uptoBulkAll elems + uptoBulkAll spare + 1
  | .agg parts => uptoBulkAll parts + 1
  | .iface _ d => uptoBulk d + 1
  | .map entries => uptoBulkEntries entries + 1
  | .held _ => 1
def uptoBulkAll {H : Type} : List (DataW H) → Nat
  | [] => 0
  | d :: r => uptoBulk d + uptoBulkAll r
def uptoBulkEntries {H : Type} : List (Lit × DataW H) → Nat
  | [] => 0
  | x :: r => uptoBulkEntry x + uptoBulkEntries r
def uptoBulkEntry {H : Type} : Lit × DataW H → Nat
  | (.string bytes, d) => bytes.length + uptoBulk d + 1
  | (_, d) => uptoBulk d + 1
 end
def uptoSmall : (H : Type) → List (DataW H) → Bool := fun _ ds => decide (uptoBulkAll ds ≤ 1048576)
def OpenSpec.upto (s : _root_.Go.ChangeSpec) : _root_.Go.OpenSpec := { _root_.Go.OpenSpec.ofChange s with cond := some uptoSmall }

/-- 'laws.FnExactDifferenceCounts', WHERE WHAT IT READS IS OF BULK AT MOST 1048576: true; the input reads as it did. -/
def fnExactDifferenceCountsUptoRow : OpenClaim := { program := "ythjbgfpoalehlaa", sum := "201b65b65e0dc52c0d1c9ee87c0455b33e643ba2f251691588d30d7529813c92", func := "loop.example/g01232/laws.FnExactDifferenceCounts", spec := "fnExactDifferenceCounts", apart := false, narrowed := true }
def FnExactDifferenceCountsUptoSaid : Prop := fnExactDifferenceCountsUptoRow.holds Try.pinned (OpenSpec.upto fnExactDifferenceCountsSpec)

/-- 'laws.FnExactIsDifferenceSet', WHERE WHAT IT READS IS OF BULK AT MOST 1048576: true; the input reads as it did. -/
def fnExactIsDifferenceSetUptoRow : OpenClaim := { program := "ythjbgfpoalehlaa", sum := "201b65b65e0dc52c0d1c9ee87c0455b33e643ba2f251691588d30d7529813c92", func := "loop.example/g01232/laws.FnExactIsDifferenceSet", spec := "fnExactIsDifferenceSet", apart := false, narrowed := true }
def FnExactIsDifferenceSetUptoSaid : Prop := fnExactIsDifferenceSetUptoRow.holds Try.pinned (OpenSpec.upto fnExactIsDifferenceSetSpec)

/-- 'laws.FnExactFirstRepeat', WHERE WHAT IT READS IS OF BULK AT MOST 1048576: true; the input reads as it did. -/
def fnExactFirstRepeatUptoRow : OpenClaim := { program := "ythjbgfpoalehlaa", sum := "201b65b65e0dc52c0d1c9ee87c0455b33e643ba2f251691588d30d7529813c92", func := "loop.example/g01232/laws.FnExactFirstRepeat", spec := "fnExactFirstRepeat", apart := false, narrowed := true }
def FnExactFirstRepeatUptoSaid : Prop := fnExactFirstRepeatUptoRow.holds Try.pinned (OpenSpec.upto fnExactFirstRepeatSpec)

/-- 'laws.FnExactLambdaOf', WHERE WHAT IT READS IS OF BULK AT MOST 1048576: true; the input reads as it did. -/
def fnExactLambdaOfUptoRow : OpenClaim := { program := "ythjbgfpoalehlaa", sum := "201b65b65e0dc52c0d1c9ee87c0455b33e643ba2f251691588d30d7529813c92", func := "loop.example/g01232/laws.FnExactLambdaOf", spec := "fnExactLambdaOf", apart := false, narrowed := true }
def FnExactLambdaOfUptoSaid : Prop := fnExactLambdaOfUptoRow.holds Try.pinned (OpenSpec.upto fnExactLambdaOfSpec)

/-- 'laws.FnExactLogsDots', WHERE WHAT IT READS IS OF BULK AT MOST 1048576: true; the input reads as it did. -/
def fnExactLogsDotsUptoRow : OpenClaim := { program := "ythjbgfpoalehlaa", sum := "201b65b65e0dc52c0d1c9ee87c0455b33e643ba2f251691588d30d7529813c92", func := "loop.example/g01232/laws.FnExactLogsDots", spec := "fnExactLogsDots", apart := false, narrowed := true }
def FnExactLogsDotsUptoSaid : Prop := fnExactLogsDotsUptoRow.holds Try.pinned (OpenSpec.upto fnExactLogsDotsSpec)

/-- 'laws.FnExactMirrorDots', WHERE WHAT IT READS IS OF BULK AT MOST 1048576: true; the input reads as it did. -/
def fnExactMirrorDotsUptoRow : OpenClaim := { program := "ythjbgfpoalehlaa", sum := "201b65b65e0dc52c0d1c9ee87c0455b33e643ba2f251691588d30d7529813c92", func := "loop.example/g01232/laws.FnExactMirrorDots", spec := "fnExactMirrorDots", apart := false, narrowed := true }
def FnExactMirrorDotsUptoSaid : Prop := fnExactMirrorDotsUptoRow.holds Try.pinned (OpenSpec.upto fnExactMirrorDotsSpec)

/-- 'laws.FnExactRulerOfRow', WHERE WHAT IT READS IS OF BULK AT MOST 1048576: true; the input reads as it did. -/
def fnExactRulerOfRowUptoRow : OpenClaim := { program := "ythjbgfpoalehlaa", sum := "201b65b65e0dc52c0d1c9ee87c0455b33e643ba2f251691588d30d7529813c92", func := "loop.example/g01232/laws.FnExactRulerOfRow", spec := "fnExactRulerOfRow", apart := false, narrowed := true }
def FnExactRulerOfRowUptoSaid : Prop := fnExactRulerOfRowUptoRow.holds Try.pinned (OpenSpec.upto fnExactRulerOfRowSpec)

/-- 'laws.FnExactComplementSet', WHERE WHAT IT READS IS OF BULK AT MOST 1048576: true; the input reads as it did. -/
def fnExactComplementSetUptoRow : OpenClaim := { program := "ythjbgfpoalehlaa", sum := "201b65b65e0dc52c0d1c9ee87c0455b33e643ba2f251691588d30d7529813c92", func := "loop.example/g01232/laws.FnExactComplementSet", spec := "fnExactComplementSet", apart := false, narrowed := true }
def FnExactComplementSetUptoSaid : Prop := fnExactComplementSetUptoRow.holds Try.pinned (OpenSpec.upto fnExactComplementSetSpec)

/-- 'laws.FnExactIsCostas', WHERE WHAT IT READS IS OF BULK AT MOST 1048576: true; the input reads as it did. -/
def fnExactIsCostasUptoRow : OpenClaim := { program := "ythjbgfpoalehlaa", sum := "201b65b65e0dc52c0d1c9ee87c0455b33e643ba2f251691588d30d7529813c92", func := "loop.example/g01232/laws.FnExactIsCostas", spec := "fnExactIsCostas", apart := false, narrowed := true }
def FnExactIsCostasUptoSaid : Prop := fnExactIsCostasUptoRow.holds Try.pinned (OpenSpec.upto fnExactIsCostasSpec)

/-- 'laws.FnExactFirstRing', WHERE WHAT IT READS IS OF BULK AT MOST 1048576: true; the input reads as it did. -/
def fnExactFirstRingUptoRow : OpenClaim := { program := "ythjbgfpoalehlaa", sum := "201b65b65e0dc52c0d1c9ee87c0455b33e643ba2f251691588d30d7529813c92", func := "loop.example/g01232/laws.FnExactFirstRing", spec := "fnExactFirstRing", recurses := true, apart := false, narrowed := true }
def FnExactFirstRingUptoSaid : Prop := fnExactFirstRingUptoRow.holds Try.pinned (OpenSpec.upto fnExactFirstRingSpec)

/-- 'laws.FnExactEdgeLabels', WHERE WHAT IT READS IS OF BULK AT MOST 1048576: true; the input reads as it did. -/
def fnExactEdgeLabelsUptoRow : OpenClaim := { program := "ythjbgfpoalehlaa", sum := "201b65b65e0dc52c0d1c9ee87c0455b33e643ba2f251691588d30d7529813c92", func := "loop.example/g01232/laws.FnExactEdgeLabels", spec := "fnExactEdgeLabels", apart := false, narrowed := true }
def FnExactEdgeLabelsUptoSaid : Prop := fnExactEdgeLabelsUptoRow.holds Try.pinned (OpenSpec.upto fnExactEdgeLabelsSpec)

/-- 'laws.FnExactIsGraceful', WHERE WHAT IT READS IS OF BULK AT MOST 1048576: true; the input reads as it did. -/
def fnExactIsGracefulUptoRow : OpenClaim := { program := "ythjbgfpoalehlaa", sum := "201b65b65e0dc52c0d1c9ee87c0455b33e643ba2f251691588d30d7529813c92", func := "loop.example/g01232/laws.FnExactIsGraceful", spec := "fnExactIsGraceful", apart := false, narrowed := true }
def FnExactIsGracefulUptoSaid : Prop := fnExactIsGracefulUptoRow.holds Try.pinned (OpenSpec.upto fnExactIsGracefulSpec)

end Rows
end Go.Proofs.Ythjbgfpoalehlaa
