/-
  No cell of these rows narrows 'for every input' (looked for: loops, veiled, ifaces, maps, wideKeys, modest, calm, conditions, laid).
  DERIVED. THE GIVEN ROWS OF THIS SEAT. 5 by the template 'for every input the law returns true; each argument reads behind the call as it read before'; 0 by the template 'total and deterministic' (their statements: YtafnipklejfbmaaTotals.lean).
  GIVEN WITH THE SEED: the statements are not yours to turn. If you find one false, say at which input.
  Laid BY PROGRAM, IN A SANDBOX (cutbox-rows.mjs): the forced cells as the released guide's own fill.sh prints them over the translation e17dac1c4edbfbb4… (all of the seat's roots in one cut). By AI agents, Wed Nov 11 2026. No macro, syntax, notation, axiom, sorry.
-/
import Derived.Test.YtafnipklejfbmaaChecked
import GoSem.Claim
import GoSem.ClaimJoined
import GoSem.ClaimMapViews
import Derived.JoinedTies
import Derived.KernelRfl
namespace Go.Proofs.Ytafnipklejfbmaa
/- THE CELL 'sum', in the pinned program and in every row, IS THE sha256 OF THE DUMP (.gsa) THAT YtafnipklejfbmaaProg.lean LOADS. Nothing in Lean hashes anything: it is a label: what it is worth is what the hold of that sum in a sandbox is worth. -/
noncomputable def Try.pinned : Pinned := { name := "ytafnipklejfbmaa", sum := "e17dac1c4edbfbb4bf67198a860c9303b20c489d1d01553ac823eeeb055b5bb8", checked := Try.checked }
namespace Rows
def none {H : Type} : Left H := { results := [], args := [] }

/-- 'laws.FnExactCountCostas': WHATEVER THE INPUT: true; the input reads as it did. -/
def fnExactCountCostasSpec : ChangeSpec := { name := "fnExactCountCostas", fn := fun _ => fun
  | [d] => { results := [.lit (.bool true)], args := [d] }
  | _ => none }
def fnExactCountCostasRow : OpenClaim := { program := "ytafnipklejfbmaa", sum := "e17dac1c4edbfbb4bf67198a860c9303b20c489d1d01553ac823eeeb055b5bb8", func := "loop.example/g01232/laws.FnExactCountCostas", spec := "fnExactCountCostas", unfollowed := true, recurses := true, apart := false }
def FnExactCountCostasSaid : Prop := fnExactCountCostasRow.holds Try.pinned (OpenSpec.ofChange fnExactCountCostasSpec)

/-- ITS FALSE NEIGHBOUR: 'it returns false'. Refute it at one input. -/
def fnExactCountCostasWrong : ChangeSpec := { name := "fnExactCountCostas", fn := fun _ => fun
  | [d] => { results := [.lit (.bool false)], args := [d] }
  | _ => none }
def FnExactCountCostasWrongFalsely : Prop := fnExactCountCostasRow.holds Try.pinned (OpenSpec.ofChange fnExactCountCostasWrong)

/-- 'laws.FnExactAllCostas': WHATEVER THE INPUT: true; the input reads as it did. -/
def fnExactAllCostasSpec : ChangeSpec := { name := "fnExactAllCostas", fn := fun _ => fun
  | [d] => { results := [.lit (.bool true)], args := [d] }
  | _ => none }
def fnExactAllCostasRow : OpenClaim := { program := "ytafnipklejfbmaa", sum := "e17dac1c4edbfbb4bf67198a860c9303b20c489d1d01553ac823eeeb055b5bb8", func := "loop.example/g01232/laws.FnExactAllCostas", spec := "fnExactAllCostas", unfollowed := true, recurses := true, apart := false }
def FnExactAllCostasSaid : Prop := fnExactAllCostasRow.holds Try.pinned (OpenSpec.ofChange fnExactAllCostasSpec)

/-- ITS FALSE NEIGHBOUR: 'it returns false'. Refute it at one input. -/
def fnExactAllCostasWrong : ChangeSpec := { name := "fnExactAllCostas", fn := fun _ => fun
  | [d] => { results := [.lit (.bool false)], args := [d] }
  | _ => none }
def FnExactAllCostasWrongFalsely : Prop := fnExactAllCostasRow.holds Try.pinned (OpenSpec.ofChange fnExactAllCostasWrong)

/-- 'laws.FnExactFirstCostas': WHATEVER THE INPUT: true; the input reads as it did. -/
def fnExactFirstCostasSpec : ChangeSpec := { name := "fnExactFirstCostas", fn := fun _ => fun
  | [d] => { results := [.lit (.bool true)], args := [d] }
  | _ => none }
def fnExactFirstCostasRow : OpenClaim := { program := "ytafnipklejfbmaa", sum := "e17dac1c4edbfbb4bf67198a860c9303b20c489d1d01553ac823eeeb055b5bb8", func := "loop.example/g01232/laws.FnExactFirstCostas", spec := "fnExactFirstCostas", unfollowed := true, recurses := true, apart := false }
def FnExactFirstCostasSaid : Prop := fnExactFirstCostasRow.holds Try.pinned (OpenSpec.ofChange fnExactFirstCostasSpec)

/-- ITS FALSE NEIGHBOUR: 'it returns false'. Refute it at one input. -/
def fnExactFirstCostasWrong : ChangeSpec := { name := "fnExactFirstCostas", fn := fun _ => fun
  | [d] => { results := [.lit (.bool false)], args := [d] }
  | _ => none }
def FnExactFirstCostasWrongFalsely : Prop := fnExactFirstCostasRow.holds Try.pinned (OpenSpec.ofChange fnExactFirstCostasWrong)

/-- 'laws.FnExactCountClasses': WHATEVER THE INPUT: true; the input reads as it did. -/
def fnExactCountClassesSpec : ChangeSpec := { name := "fnExactCountClasses", fn := fun _ => fun
  | [d] => { results := [.lit (.bool true)], args := [d] }
  | _ => none }
def fnExactCountClassesRow : OpenClaim := { program := "ytafnipklejfbmaa", sum := "e17dac1c4edbfbb4bf67198a860c9303b20c489d1d01553ac823eeeb055b5bb8", func := "loop.example/g01232/laws.FnExactCountClasses", spec := "fnExactCountClasses", unfollowed := true, recurses := true, apart := false }
def FnExactCountClassesSaid : Prop := fnExactCountClassesRow.holds Try.pinned (OpenSpec.ofChange fnExactCountClassesSpec)

/-- ITS FALSE NEIGHBOUR: 'it returns false'. Refute it at one input. -/
def fnExactCountClassesWrong : ChangeSpec := { name := "fnExactCountClasses", fn := fun _ => fun
  | [d] => { results := [.lit (.bool false)], args := [d] }
  | _ => none }
def FnExactCountClassesWrongFalsely : Prop := fnExactCountClassesRow.holds Try.pinned (OpenSpec.ofChange fnExactCountClassesWrong)

/-- 'laws.FnExactPowersDots': WHATEVER THE INPUT: true; the input reads as it did. -/
def fnExactPowersDotsSpec : ChangeSpec := { name := "fnExactPowersDots", fn := fun _ => fun
  | [d1, d2] => { results := [.lit (.bool true)], args := [d1, d2] }
  | _ => none }
def fnExactPowersDotsRow : OpenClaim := { program := "ytafnipklejfbmaa", sum := "e17dac1c4edbfbb4bf67198a860c9303b20c489d1d01553ac823eeeb055b5bb8", func := "loop.example/g01232/laws.FnExactPowersDots", spec := "fnExactPowersDots", apart := false }
def FnExactPowersDotsSaid : Prop := fnExactPowersDotsRow.holds Try.pinned (OpenSpec.ofChange fnExactPowersDotsSpec)

/-- ITS FALSE NEIGHBOUR: 'it returns false'. Refute it at one input. -/
def fnExactPowersDotsWrong : ChangeSpec := { name := "fnExactPowersDots", fn := fun _ => fun
  | [d1, d2] => { results := [.lit (.bool false)], args := [d1, d2] }
  | _ => none }
def FnExactPowersDotsWrongFalsely : Prop := fnExactPowersDotsRow.holds Try.pinned (OpenSpec.ofChange fnExactPowersDotsWrong)

/- THE SECOND FORM. 'bulk': how many values and letters a reading holds, each counted each time it is reached (what is shared counts as often as it is met; a slice's spare places count too). A statement '..UptoSaid' is the law's where the arguments, and the package variables that the reading takes, are together of bulk at most 1048576: NARROWER than '..Said'. Prove '..Said' where nothing that the law and all that it calls make is longer than what came in: it says more and counts as full. Else prove '..UptoSaid'. A law counts once. -/
mutual
def uptoBulk {H : Type} : DataW H → Nat
  | .lit (.string bytes) => bytes.length + 1
  | .lit _ => 1
  | .nil => 1
  | .ptr d => uptoBulk d + 1
  | .slice elems spare => uptoBulkAll elems + uptoBulkAll spare + 1
  | .agg parts => uptoBulkAll parts + 1
  | .iface _ d => uptoBulk d + 1
  | .map entries => uptoBulkEntries entries + 1
  | .held _ => 1
def uptoBulkAll {H : Type} : List (DataW H) → Nat
  | [] => 0
  | d :: r => uptoBulk d + uptoBulkAll r
def uptoBulkEntries {H : Type} : List (Lit × DataW H) → Nat
  | [] => 0
  | x :: r => uptoBulkEntry x + uptoBulkEntries r
def uptoBulkEntry {H : Type} : Lit × DataW H → Nat
  | (.string bytes, d) => bytes.length + uptoBulk d + 1
  | (_, d) => uptoBulk d + 1
 end
def uptoSmall : (H : Type) → List (DataW H) → Bool := fun _ ds => decide (uptoBulkAll ds ≤ 1048576)
def OpenSpec.upto (s : _root_.Go.ChangeSpec) : _root_.Go.OpenSpec := { _root_.Go.OpenSpec.ofChange s with cond := some uptoSmall }

/-- 'laws.FnExactCountCostas', WHERE WHAT IT READS IS OF BULK AT MOST 1048576: true; the input reads as it did. -/
def fnExactCountCostasUptoRow : OpenClaim := { program := "ytafnipklejfbmaa", sum := "e17dac1c4edbfbb4bf67198a860c9303b20c489d1d01553ac823eeeb055b5bb8", func := "loop.example/g01232/laws.FnExactCountCostas", spec := "fnExactCountCostas", unfollowed := true, recurses := true, apart := false, narrowed := true }
def FnExactCountCostasUptoSaid : Prop := fnExactCountCostasUptoRow.holds Try.pinned (OpenSpec.upto fnExactCountCostasSpec)

/-- 'laws.FnExactAllCostas', WHERE WHAT IT READS IS OF BULK AT MOST 1048576: true; the input reads as it did. -/
def fnExactAllCostasUptoRow : OpenClaim := { program := "ytafnipklejfbmaa", sum := "e17dac1c4edbfbb4bf67198a860c9303b20c489d1d01553ac823eeeb055b5bb8", func := "loop.example/g01232/laws.FnExactAllCostas", spec := "fnExactAllCostas", unfollowed := true, recurses := true, apart := false, narrowed := true }
def FnExactAllCostasUptoSaid : Prop := fnExactAllCostasUptoRow.holds Try.pinned (OpenSpec.upto fnExactAllCostasSpec)

/-- 'laws.FnExactFirstCostas', WHERE WHAT IT READS IS OF BULK AT MOST 1048576: true; the input reads as it did. -/
def fnExactFirstCostasUptoRow : OpenClaim := { program := "ytafnipklejfbmaa", sum := "e17dac1c4edbfbb4bf67198a860c9303b20c489d1d01553ac823eeeb055b5bb8", func := "loop.example/g01232/laws.FnExactFirstCostas", spec := "fnExactFirstCostas", unfollowed := true, recurses := true, apart := false, narrowed := true }
def FnExactFirstCostasUptoSaid : Prop := fnExactFirstCostasUptoRow.holds Try.pinned (OpenSpec.upto fnExactFirstCostasSpec)

/-- 'laws.FnExactCountClasses', WHERE WHAT IT READS IS OF BULK AT MOST 1048576: true; the input reads as it did. -/
def fnExactCountClassesUptoRow : OpenClaim := { program := "ytafnipklejfbmaa", sum := "e17dac1c4edbfbb4bf67198a860c9303b20c489d1d01553ac823eeeb055b5bb8", func := "loop.example/g01232/laws.FnExactCountClasses", spec := "fnExactCountClasses", unfollowed := true, recurses := true, apart := false, narrowed := true }
def FnExactCountClassesUptoSaid : Prop := fnExactCountClassesUptoRow.holds Try.pinned (OpenSpec.upto fnExactCountClassesSpec)

/-- 'laws.FnExactPowersDots', WHERE WHAT IT READS IS OF BULK AT MOST 1048576: true; the input reads as it did. -/
def fnExactPowersDotsUptoRow : OpenClaim := { program := "ytafnipklejfbmaa", sum := "e17dac1c4edbfbb4bf67198a860c9303b20c489d1d01553ac823eeeb055b5bb8", func := "loop.example/g01232/laws.FnExactPowersDots", spec := "fnExactPowersDots", apart := false, narrowed := true }
def FnExactPowersDotsUptoSaid : Prop := fnExactPowersDotsUptoRow.holds Try.pinned (OpenSpec.upto fnExactPowersDotsSpec)

end Rows
end Go.Proofs.Ytafnipklejfbmaa
