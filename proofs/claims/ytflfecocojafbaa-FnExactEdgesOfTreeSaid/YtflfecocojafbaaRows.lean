/-
  No cell of these rows narrows 'for every input' (looked for: loops, veiled, ifaces, maps, wideKeys, modest, calm, conditions, laid).
  DERIVED. THE GIVEN ROWS OF THIS SEAT. 12 by the template 'for every input the law returns true; each argument reads behind the call as it read before'; 0 by the template 'total and deterministic' (their statements: YtflfecocojafbaaTotals.lean).
  GIVEN WITH THE SEED: the statements are not yours to turn. If you find one false, say at which input.
  Laid BY PROGRAM, IN A SANDBOX (cutbox-rows.mjs): the forced cells as the released guide's own fill.sh prints them over the translation f05731434a19c4e2… (all of the seat's roots in one cut). By AI agents, Wed Nov 11 2026. No macro, syntax, notation, axiom, sorry.
-/
import Derived.Test.YtflfecocojafbaaChecked
import GoSem.Claim
import GoSem.ClaimJoined
import GoSem.ClaimMapViews
import Derived.JoinedTies
import Derived.KernelRfl
namespace Go.Proofs.Ytflfecocojafbaa
/- THE CELL 'sum', in the pinned program and in every row, IS THE sha256 OF THE DUMP (.gsa) THAT YtflfecocojafbaaProg.lean LOADS. Nothing in Lean hashes anything: it is a label: what it is worth is what the hold of that sum in a sandbox is worth. -/
noncomputable def Try.pinned : Pinned := { name := "ytflfecocojafbaa", sum := "f05731434a19c4e276fc664310ab4234a7b175f2f449b90a9197210e9a56179a", checked := Try.checked }
namespace Rows
def none {H : Type} : Left H := { results := [], args := [] }

/-- 'laws.FnExactIsComb': WHATEVER THE INPUT: true; the input reads as it did. -/
def fnExactIsCombSpec : ChangeSpec := { name := "fnExactIsComb", fn := fun _ => fun
  | [d] => { results := [.lit (.bool true)], args := [d] }
  | _ => none }
def fnExactIsCombRow : OpenClaim := { program := "ytflfecocojafbaa", sum := "f05731434a19c4e276fc664310ab4234a7b175f2f449b90a9197210e9a56179a", func := "loop.example/g01232/laws.FnExactIsComb", spec := "fnExactIsComb", apart := false }
def FnExactIsCombSaid : Prop := fnExactIsCombRow.holds Try.pinned (OpenSpec.ofChange fnExactIsCombSpec)

/-- ITS FALSE NEIGHBOUR: 'it returns false'. Refute it at one input. -/
def fnExactIsCombWrong : ChangeSpec := { name := "fnExactIsComb", fn := fun _ => fun
  | [d] => { results := [.lit (.bool false)], args := [d] }
  | _ => none }
def FnExactIsCombWrongFalsely : Prop := fnExactIsCombRow.holds Try.pinned (OpenSpec.ofChange fnExactIsCombWrong)

/-- 'laws.FnExactPowersDots': WHATEVER THE INPUT: true; the input reads as it did. -/
def fnExactPowersDotsSpec : ChangeSpec := { name := "fnExactPowersDots", fn := fun _ => fun
  | [d1, d2] => { results := [.lit (.bool true)], args := [d1, d2] }
  | _ => none }
def fnExactPowersDotsRow : OpenClaim := { program := "ytflfecocojafbaa", sum := "f05731434a19c4e276fc664310ab4234a7b175f2f449b90a9197210e9a56179a", func := "loop.example/g01232/laws.FnExactPowersDots", spec := "fnExactPowersDots", apart := false }
def FnExactPowersDotsSaid : Prop := fnExactPowersDotsRow.holds Try.pinned (OpenSpec.ofChange fnExactPowersDotsSpec)

/-- ITS FALSE NEIGHBOUR: 'it returns false'. Refute it at one input. -/
def fnExactPowersDotsWrong : ChangeSpec := { name := "fnExactPowersDots", fn := fun _ => fun
  | [d1, d2] => { results := [.lit (.bool false)], args := [d1, d2] }
  | _ => none }
def FnExactPowersDotsWrongFalsely : Prop := fnExactPowersDotsRow.holds Try.pinned (OpenSpec.ofChange fnExactPowersDotsWrong)

/-- 'laws.FnExactSetOfSteps': WHATEVER THE INPUT: true; the input reads as it did. -/
def fnExactSetOfStepsSpec : ChangeSpec := { name := "fnExactSetOfSteps", fn := fun _ => fun
  | [d] => { results := [.lit (.bool true)], args := [d] }
  | _ => none }
def fnExactSetOfStepsRow : OpenClaim := { program := "ytflfecocojafbaa", sum := "f05731434a19c4e276fc664310ab4234a7b175f2f449b90a9197210e9a56179a", func := "loop.example/g01232/laws.FnExactSetOfSteps", spec := "fnExactSetOfSteps", apart := false }
def FnExactSetOfStepsSaid : Prop := fnExactSetOfStepsRow.holds Try.pinned (OpenSpec.ofChange fnExactSetOfStepsSpec)

/-- ITS FALSE NEIGHBOUR: 'it returns false'. Refute it at one input. -/
def fnExactSetOfStepsWrong : ChangeSpec := { name := "fnExactSetOfSteps", fn := fun _ => fun
  | [d] => { results := [.lit (.bool false)], args := [d] }
  | _ => none }
def FnExactSetOfStepsWrongFalsely : Prop := fnExactSetOfStepsRow.holds Try.pinned (OpenSpec.ofChange fnExactSetOfStepsWrong)

/-- 'laws.FnExactDifferencesOf': WHATEVER THE INPUT: true; the input reads as it did. -/
def fnExactDifferencesOfSpec : ChangeSpec := { name := "fnExactDifferencesOf", fn := fun _ => fun
  | [d1, d2] => { results := [.lit (.bool true)], args := [d1, d2] }
  | _ => none }
def fnExactDifferencesOfRow : OpenClaim := { program := "ytflfecocojafbaa", sum := "f05731434a19c4e276fc664310ab4234a7b175f2f449b90a9197210e9a56179a", func := "loop.example/g01232/laws.FnExactDifferencesOf", spec := "fnExactDifferencesOf", apart := false }
def FnExactDifferencesOfSaid : Prop := fnExactDifferencesOfRow.holds Try.pinned (OpenSpec.ofChange fnExactDifferencesOfSpec)

/-- ITS FALSE NEIGHBOUR: 'it returns false'. Refute it at one input. -/
def fnExactDifferencesOfWrong : ChangeSpec := { name := "fnExactDifferencesOf", fn := fun _ => fun
  | [d1, d2] => { results := [.lit (.bool false)], args := [d1, d2] }
  | _ => none }
def FnExactDifferencesOfWrongFalsely : Prop := fnExactDifferencesOfRow.holds Try.pinned (OpenSpec.ofChange fnExactDifferencesOfWrong)

/-- 'laws.FnExactTurnDots': WHATEVER THE INPUT: true; the input reads as it did. -/
def fnExactTurnDotsSpec : ChangeSpec := { name := "fnExactTurnDots", fn := fun _ => fun
  | [d] => { results := [.lit (.bool true)], args := [d] }
  | _ => none }
def fnExactTurnDotsRow : OpenClaim := { program := "ytflfecocojafbaa", sum := "f05731434a19c4e276fc664310ab4234a7b175f2f449b90a9197210e9a56179a", func := "loop.example/g01232/laws.FnExactTurnDots", spec := "fnExactTurnDots", apart := false }
def FnExactTurnDotsSaid : Prop := fnExactTurnDotsRow.holds Try.pinned (OpenSpec.ofChange fnExactTurnDotsSpec)

/-- ITS FALSE NEIGHBOUR: 'it returns false'. Refute it at one input. -/
def fnExactTurnDotsWrong : ChangeSpec := { name := "fnExactTurnDots", fn := fun _ => fun
  | [d] => { results := [.lit (.bool false)], args := [d] }
  | _ => none }
def FnExactTurnDotsWrongFalsely : Prop := fnExactTurnDotsRow.holds Try.pinned (OpenSpec.ofChange fnExactTurnDotsWrong)

/-- 'laws.FnExactDistancesOf': WHATEVER THE INPUT: true; the input reads as it did. -/
def fnExactDistancesOfSpec : ChangeSpec := { name := "fnExactDistancesOf", fn := fun _ => fun
  | [d] => { results := [.lit (.bool true)], args := [d] }
  | _ => none }
def fnExactDistancesOfRow : OpenClaim := { program := "ytflfecocojafbaa", sum := "f05731434a19c4e276fc664310ab4234a7b175f2f449b90a9197210e9a56179a", func := "loop.example/g01232/laws.FnExactDistancesOf", spec := "fnExactDistancesOf", apart := false }
def FnExactDistancesOfSaid : Prop := fnExactDistancesOfRow.holds Try.pinned (OpenSpec.ofChange fnExactDistancesOfSpec)

/-- ITS FALSE NEIGHBOUR: 'it returns false'. Refute it at one input. -/
def fnExactDistancesOfWrong : ChangeSpec := { name := "fnExactDistancesOf", fn := fun _ => fun
  | [d] => { results := [.lit (.bool false)], args := [d] }
  | _ => none }
def FnExactDistancesOfWrongFalsely : Prop := fnExactDistancesOfRow.holds Try.pinned (OpenSpec.ofChange fnExactDistancesOfWrong)

/-- 'laws.FnExactMissingDistances': WHATEVER THE INPUT: true; the input reads as it did. -/
def fnExactMissingDistancesSpec : ChangeSpec := { name := "fnExactMissingDistances", fn := fun _ => fun
  | [d] => { results := [.lit (.bool true)], args := [d] }
  | _ => none }
def fnExactMissingDistancesRow : OpenClaim := { program := "ytflfecocojafbaa", sum := "f05731434a19c4e276fc664310ab4234a7b175f2f449b90a9197210e9a56179a", func := "loop.example/g01232/laws.FnExactMissingDistances", spec := "fnExactMissingDistances", apart := false }
def FnExactMissingDistancesSaid : Prop := fnExactMissingDistancesRow.holds Try.pinned (OpenSpec.ofChange fnExactMissingDistancesSpec)

/-- ITS FALSE NEIGHBOUR: 'it returns false'. Refute it at one input. -/
def fnExactMissingDistancesWrong : ChangeSpec := { name := "fnExactMissingDistances", fn := fun _ => fun
  | [d] => { results := [.lit (.bool false)], args := [d] }
  | _ => none }
def FnExactMissingDistancesWrongFalsely : Prop := fnExactMissingDistancesRow.holds Try.pinned (OpenSpec.ofChange fnExactMissingDistancesWrong)

/-- 'laws.FnExactIsLabels': WHATEVER THE INPUT: true; the input reads as it did. -/
def fnExactIsLabelsSpec : ChangeSpec := { name := "fnExactIsLabels", fn := fun _ => fun
  | [d1, d2] => { results := [.lit (.bool true)], args := [d1, d2] }
  | _ => none }
def fnExactIsLabelsRow : OpenClaim := { program := "ytflfecocojafbaa", sum := "f05731434a19c4e276fc664310ab4234a7b175f2f449b90a9197210e9a56179a", func := "loop.example/g01232/laws.FnExactIsLabels", spec := "fnExactIsLabels", apart := false }
def FnExactIsLabelsSaid : Prop := fnExactIsLabelsRow.holds Try.pinned (OpenSpec.ofChange fnExactIsLabelsSpec)

/-- ITS FALSE NEIGHBOUR: 'it returns false'. Refute it at one input. -/
def fnExactIsLabelsWrong : ChangeSpec := { name := "fnExactIsLabels", fn := fun _ => fun
  | [d1, d2] => { results := [.lit (.bool false)], args := [d1, d2] }
  | _ => none }
def FnExactIsLabelsWrongFalsely : Prop := fnExactIsLabelsRow.holds Try.pinned (OpenSpec.ofChange fnExactIsLabelsWrong)

/-- 'laws.FnExactCombTree': WHATEVER THE INPUT: true; the input reads as it did. -/
def fnExactCombTreeSpec : ChangeSpec := { name := "fnExactCombTree", fn := fun _ => fun
  | [d] => { results := [.lit (.bool true)], args := [d] }
  | _ => none }
def fnExactCombTreeRow : OpenClaim := { program := "ytflfecocojafbaa", sum := "f05731434a19c4e276fc664310ab4234a7b175f2f449b90a9197210e9a56179a", func := "loop.example/g01232/laws.FnExactCombTree", spec := "fnExactCombTree", apart := false }
def FnExactCombTreeSaid : Prop := fnExactCombTreeRow.holds Try.pinned (OpenSpec.ofChange fnExactCombTreeSpec)

/-- ITS FALSE NEIGHBOUR: 'it returns false'. Refute it at one input. -/
def fnExactCombTreeWrong : ChangeSpec := { name := "fnExactCombTree", fn := fun _ => fun
  | [d] => { results := [.lit (.bool false)], args := [d] }
  | _ => none }
def FnExactCombTreeWrongFalsely : Prop := fnExactCombTreeRow.holds Try.pinned (OpenSpec.ofChange fnExactCombTreeWrong)

/-- 'laws.FnExactComplementLabels': WHATEVER THE INPUT: true; the input reads as it did. -/
def fnExactComplementLabelsSpec : ChangeSpec := { name := "fnExactComplementLabels", fn := fun _ => fun
  | [d] => { results := [.lit (.bool true)], args := [d] }
  | _ => none }
def fnExactComplementLabelsRow : OpenClaim := { program := "ytflfecocojafbaa", sum := "f05731434a19c4e276fc664310ab4234a7b175f2f449b90a9197210e9a56179a", func := "loop.example/g01232/laws.FnExactComplementLabels", spec := "fnExactComplementLabels", apart := false }
def FnExactComplementLabelsSaid : Prop := fnExactComplementLabelsRow.holds Try.pinned (OpenSpec.ofChange fnExactComplementLabelsSpec)

/-- ITS FALSE NEIGHBOUR: 'it returns false'. Refute it at one input. -/
def fnExactComplementLabelsWrong : ChangeSpec := { name := "fnExactComplementLabels", fn := fun _ => fun
  | [d] => { results := [.lit (.bool false)], args := [d] }
  | _ => none }
def FnExactComplementLabelsWrongFalsely : Prop := fnExactComplementLabelsRow.holds Try.pinned (OpenSpec.ofChange fnExactComplementLabelsWrong)

/-- 'laws.FnExactEdgesOfTree': WHATEVER THE INPUT: true; the input reads as it did. -/
def fnExactEdgesOfTreeSpec : ChangeSpec := { name := "fnExactEdgesOfTree", fn := fun _ => fun
  | [d] => { results := [.lit (.bool true)], args := [d] }
  | _ => none }
def fnExactEdgesOfTreeRow : OpenClaim := { program := "ytflfecocojafbaa", sum := "f05731434a19c4e276fc664310ab4234a7b175f2f449b90a9197210e9a56179a", func := "loop.example/g01232/laws.FnExactEdgesOfTree", spec := "fnExactEdgesOfTree", apart := false }
def FnExactEdgesOfTreeSaid : Prop := fnExactEdgesOfTreeRow.holds Try.pinned (OpenSpec.ofChange fnExactEdgesOfTreeSpec)

/-- ITS FALSE NEIGHBOUR: 'it returns false'. Refute it at one input. -/
def fnExactEdgesOfTreeWrong : ChangeSpec := { name := "fnExactEdgesOfTree", fn := fun _ => fun
  | [d] => { results := [.lit (.bool false)], args := [d] }
  | _ => none }
def FnExactEdgesOfTreeWrongFalsely : Prop := fnExactEdgesOfTreeRow.holds Try.pinned (OpenSpec.ofChange fnExactEdgesOfTreeWrong)

/-- 'laws.FnExactIsAroundRuler': WHATEVER THE INPUT: true; the input reads as it did. -/
def fnExactIsAroundRulerSpec : ChangeSpec := { name := "fnExactIsAroundRuler", fn := fun _ => fun
  | [d1, d2] => { results := [.lit (.bool true)], args := [d1, d2] }
  | _ => none }
def fnExactIsAroundRulerRow : OpenClaim := { program := "ytflfecocojafbaa", sum := "f05731434a19c4e276fc664310ab4234a7b175f2f449b90a9197210e9a56179a", func := "loop.example/g01232/laws.FnExactIsAroundRuler", spec := "fnExactIsAroundRuler", apart := false }
def FnExactIsAroundRulerSaid : Prop := fnExactIsAroundRulerRow.holds Try.pinned (OpenSpec.ofChange fnExactIsAroundRulerSpec)

/-- ITS FALSE NEIGHBOUR: 'it returns false'. Refute it at one input. -/
def fnExactIsAroundRulerWrong : ChangeSpec := { name := "fnExactIsAroundRuler", fn := fun _ => fun
  | [d1, d2] => { results := [.lit (.bool false)], args := [d1, d2] }
  | _ => none }
def FnExactIsAroundRulerWrongFalsely : Prop := fnExactIsAroundRulerRow.holds Try.pinned (OpenSpec.ofChange fnExactIsAroundRulerWrong)

/- THE SECOND FORM. 'bulk': how many values and letters a reading holds, each counted each time it is reached (what is shared counts as often as it is met; a slice's spare places count too). A statement '..UptoSaid' is the law's where the arguments, and the package variables that the reading takes, are together of bulk at most 1048576: NARROWER than '..Said'. Prove '..Said' where nothing that the law and all that it calls make is longer than what came in: it says more and counts as full. Else prove '..UptoSaid'. A law counts once. -/
mutual
def uptoBulk {H : Type} : DataW H → Nat
  | .lit (.string bytes) => bytes.length + 1
  | .lit _ => 1
  | .nil => 1
  | .ptr d => uptoBulk d + 1
  | .slice elems spare => uptoBulkAll elems + uptoBulkAll spare + 1
  | .agg parts => uptoBulkAll parts + 1
  | .iface _ d => uptoBulk d + 1
  | .map entries => uptoBulkEntries entries + 1
  | .held _ => 1
def uptoBulkAll {H : Type} : List (DataW H) → Nat
  | [] => 0
  | d :: r => uptoBulk d + uptoBulkAll r
def uptoBulkEntries {H : Type} : List (Lit × DataW H) → Nat
  | [] => 0
  | x :: r => uptoBulkEntry x + uptoBulkEntries r
def uptoBulkEntry {H : Type} : Lit × DataW H → Nat
  | (.string bytes, d) => bytes.length + uptoBulk d + 1
  | (_, d) => uptoBulk d + 1
 end
def uptoSmall : (H : Type) → List (DataW H) → Bool := fun _ ds => decide (uptoBulkAll ds ≤ 1048576)
def OpenSpec.upto (s : _root_.Go.ChangeSpec) : _root_.Go.OpenSpec := { _root_.Go.OpenSpec.ofChange s with cond := some uptoSmall }

/-- 'laws.FnExactIsComb', WHERE WHAT IT READS IS OF BULK AT MOST 1048576: true; the input reads as it did. -/
def fnExactIsCombUptoRow : OpenClaim := { program := "ytflfecocojafbaa", sum := "f05731434a19c4e276fc664310ab4234a7b175f2f449b90a9197210e9a56179a", func := "loop.example/g01232/laws.FnExactIsComb", spec := "fnExactIsComb", apart := false, narrowed := true }
def FnExactIsCombUptoSaid : Prop := fnExactIsCombUptoRow.holds Try.pinned (OpenSpec.upto fnExactIsCombSpec)

/-- 'laws.FnExactPowersDots', WHERE WHAT IT READS IS OF BULK AT MOST 1048576: true; the input reads as it did. -/
def fnExactPowersDotsUptoRow : OpenClaim := { program := "ytflfecocojafbaa", sum := "f05731434a19c4e276fc664310ab4234a7b175f2f449b90a9197210e9a56179a", func := "loop.example/g01232/laws.FnExactPowersDots", spec := "fnExactPowersDots", apart := false, narrowed := true }
def FnExactPowersDotsUptoSaid : Prop := fnExactPowersDotsUptoRow.holds Try.pinned (OpenSpec.upto fnExactPowersDotsSpec)

/-- 'laws.FnExactSetOfSteps', WHERE WHAT IT READS IS OF BULK AT MOST 1048576: true; the input reads as it did. -/
def fnExactSetOfStepsUptoRow : OpenClaim := { program := "ytflfecocojafbaa", sum := "f05731434a19c4e276fc664310ab4234a7b175f2f449b90a9197210e9a56179a", func := "loop.example/g01232/laws.FnExactSetOfSteps", spec := "fnExactSetOfSteps", apart := false, narrowed := true }
def FnExactSetOfStepsUptoSaid : Prop := fnExactSetOfStepsUptoRow.holds Try.pinned (OpenSpec.upto fnExactSetOfStepsSpec)

/-- 'laws.FnExactDifferencesOf', WHERE WHAT IT READS IS OF BULK AT MOST 1048576: true; the input reads as it did. -/
def fnExactDifferencesOfUptoRow : OpenClaim := { program := "ytflfecocojafbaa", sum := "f05731434a19c4e276fc664310ab4234a7b175f2f449b90a9197210e9a56179a", func := "loop.example/g01232/laws.FnExactDifferencesOf", spec := "fnExactDifferencesOf", apart := false, narrowed := true }
def FnExactDifferencesOfUptoSaid : Prop := fnExactDifferencesOfUptoRow.holds Try.pinned (OpenSpec.upto fnExactDifferencesOfSpec)

/-- 'laws.FnExactTurnDots', WHERE WHAT IT READS IS OF BULK AT MOST 1048576: true; the input reads as it did. -/
def fnExactTurnDotsUptoRow : OpenClaim := { program := "ytflfecocojafbaa", sum := "f05731434a19c4e276fc664310ab4234a7b175f2f449b90a9197210e9a56179a", func := "loop.example/g01232/laws.FnExactTurnDots", spec := "fnExactTurnDots", apart := false, narrowed := true }
def FnExactTurnDotsUptoSaid : Prop := fnExactTurnDotsUptoRow.holds Try.pinned (OpenSpec.upto fnExactTurnDotsSpec)

/-- 'laws.FnExactDistancesOf', WHERE WHAT IT READS IS OF BULK AT MOST 1048576: true; the input reads as it did. -/
def fnExactDistancesOfUptoRow : OpenClaim := { program := "ytflfecocojafbaa", sum := "f05731434a19c4e276fc664310ab4234a7b175f2f449b90a9197210e9a56179a", func := "loop.example/g01232/laws.FnExactDistancesOf", spec := "fnExactDistancesOf", apart := false, narrowed := true }
def FnExactDistancesOfUptoSaid : Prop := fnExactDistancesOfUptoRow.holds Try.pinned (OpenSpec.upto fnExactDistancesOfSpec)

/-- 'laws.FnExactMissingDistances', WHERE WHAT IT READS IS OF BULK AT MOST 1048576: true; the input reads as it did. -/
def fnExactMissingDistancesUptoRow : OpenClaim := { program := "ytflfecocojafbaa", sum := "f05731434a19c4e276fc664310ab4234a7b175f2f449b90a9197210e9a56179a", func := "loop.example/g01232/laws.FnExactMissingDistances", spec := "fnExactMissingDistances", apart := false, narrowed := true }
def FnExactMissingDistancesUptoSaid : Prop := fnExactMissingDistancesUptoRow.holds Try.pinned (OpenSpec.upto fnExactMissingDistancesSpec)

/-- 'laws.FnExactIsLabels', WHERE WHAT IT READS IS OF BULK AT MOST 1048576: true; the input reads as it did. -/
def fnExactIsLabelsUptoRow : OpenClaim := { program := "ytflfecocojafbaa", sum := "f05731434a19c4e276fc664310ab4234a7b175f2f449b90a9197210e9a56179a", func := "loop.example/g01232/laws.FnExactIsLabels", spec := "fnExactIsLabels", apart := false, narrowed := true }
def FnExactIsLabelsUptoSaid : Prop := fnExactIsLabelsUptoRow.holds Try.pinned (OpenSpec.upto fnExactIsLabelsSpec)

/-- 'laws.FnExactCombTree', WHERE WHAT IT READS IS OF BULK AT MOST 1048576: true; the input reads as it did. -/
def fnExactCombTreeUptoRow : OpenClaim := { program := "ytflfecocojafbaa", sum := "f05731434a19c4e276fc664310ab4234a7b175f2f449b90a9197210e9a56179a", func := "loop.example/g01232/laws.FnExactCombTree", spec := "fnExactCombTree", apart := false, narrowed := true }
def FnExactCombTreeUptoSaid : Prop := fnExactCombTreeUptoRow.holds Try.pinned (OpenSpec.upto fnExactCombTreeSpec)

/-- 'laws.FnExactComplementLabels', WHERE WHAT IT READS IS OF BULK AT MOST 1048576: true; the input reads as it did. -/
def fnExactComplementLabelsUptoRow : OpenClaim := { program := "ytflfecocojafbaa", sum := "f05731434a19c4e276fc664310ab4234a7b175f2f449b90a9197210e9a56179a", func := "loop.example/g01232/laws.FnExactComplementLabels", spec := "fnExactComplementLabels", apart := false, narrowed := true }
def FnExactComplementLabelsUptoSaid : Prop := fnExactComplementLabelsUptoRow.holds Try.pinned (OpenSpec.upto fnExactComplementLabelsSpec)

/-- 'laws.FnExactEdgesOfTree', WHERE WHAT IT READS IS OF BULK AT MOST 1048576: true; the input reads as it did. -/
def fnExactEdgesOfTreeUptoRow : OpenClaim := { program := "ytflfecocojafbaa", sum := "f05731434a19c4e276fc664310ab4234a7b175f2f449b90a9197210e9a56179a", func := "loop.example/g01232/laws.FnExactEdgesOfTree", spec := "fnExactEdgesOfTree", apart := false, narrowed := true }
def FnExactEdgesOfTreeUptoSaid : Prop := fnExactEdgesOfTreeUptoRow.holds Try.pinned (OpenSpec.upto fnExactEdgesOfTreeSpec)

/-- 'laws.FnExactIsAroundRuler', WHERE WHAT IT READS IS OF BULK AT MOST 1048576: true; the input reads as it did. -/
def fnExactIsAroundRulerUptoRow : OpenClaim := { program := "ytflfecocojafbaa", sum := "f05731434a19c4e276fc664310ab4234a7b175f2f449b90a9197210e9a56179a", func := "loop.example/g01232/laws.FnExactIsAroundRuler", spec := "fnExactIsAroundRuler", apart := false, narrowed := true }
def FnExactIsAroundRulerUptoSaid : Prop := fnExactIsAroundRulerUptoRow.holds Try.pinned (OpenSpec.upto fnExactIsAroundRulerSpec)

end Rows
end Go.Proofs.Ytflfecocojafbaa
