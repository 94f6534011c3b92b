/-
  No cell of these rows narrows 'for every input' (looked for: loops, veiled, ifaces, maps, wideKeys, modest, calm, conditions, laid).
  DERIVED. THE GIVEN ROWS OF THIS SEAT. 6 by the template 'for every input the law returns true; each argument reads behind the call as it read before'; 0 by the template 'total and deterministic' (their statements: YtpabfibmpannoaaTotals.lean).
  GIVEN WITH THE SEED: the statements are not yours to turn. If you find one false, say at which input.
  Laid BY PROGRAM, IN A SANDBOX (cutbox-rows.mjs): the forced cells as the released guide's own fill.sh prints them over the translation 83362358c2b7ab4c… (all of the seat's roots in one cut). By AI agents, Wed Nov 11 2026. No macro, syntax, notation, axiom, sorry.
-/
import Derived.Test.YtpabfibmpannoaaChecked
import GoSem.Claim
import GoSem.ClaimJoined
import GoSem.ClaimMapViews
import Derived.JoinedTies
import Derived.KernelRfl
namespace Go.Proofs.Ytpabfibmpannoaa
/- THE CELL 'sum', in the pinned program and in every row, IS THE sha256 OF THE DUMP (.gsa) THAT YtpabfibmpannoaaProg.lean LOADS. Nothing in Lean hashes anything: it is a label: what it is worth is what the hold of that sum in a sandbox is worth. -/
noncomputable def Try.pinned : Pinned := { name := "ytpabfibmpannoaa", sum := "83362358c2b7ab4cfafb506e78968592a57991e5e651d31397fa27bfd7ce861e", checked := Try.checked }
namespace Rows
def none {H : Type} : Left H := { results := [], args := [] }

/-- 'laws.FnExactAreFamily': WHATEVER THE INPUT: true; the input reads as it did. -/
def fnExactAreFamilySpec : ChangeSpec := { name := "fnExactAreFamily", fn := fun _ => fun
  | [d1, d2] => { results := [.lit (.bool true)], args := [d1, d2] }
  | _ => none }
def fnExactAreFamilyRow : OpenClaim := { program := "ytpabfibmpannoaa", sum := "83362358c2b7ab4cfafb506e78968592a57991e5e651d31397fa27bfd7ce861e", func := "loop.example/g01232/laws.FnExactAreFamily", spec := "fnExactAreFamily", apart := false }
def FnExactAreFamilySaid : Prop := fnExactAreFamilyRow.holds Try.pinned (OpenSpec.ofChange fnExactAreFamilySpec)

/-- ITS FALSE NEIGHBOUR: 'it returns false'. Refute it at one input. -/
def fnExactAreFamilyWrong : ChangeSpec := { name := "fnExactAreFamily", fn := fun _ => fun
  | [d1, d2] => { results := [.lit (.bool false)], args := [d1, d2] }
  | _ => none }
def FnExactAreFamilyWrongFalsely : Prop := fnExactAreFamilyRow.holds Try.pinned (OpenSpec.ofChange fnExactAreFamilyWrong)

/-- 'laws.FnExactIsHalved': WHATEVER THE INPUT: true; the input reads as it did. -/
def fnExactIsHalvedSpec : ChangeSpec := { name := "fnExactIsHalved", fn := fun _ => fun
  | [d1, d2] => { results := [.lit (.bool true)], args := [d1, d2] }
  | _ => none }
def fnExactIsHalvedRow : OpenClaim := { program := "ytpabfibmpannoaa", sum := "83362358c2b7ab4cfafb506e78968592a57991e5e651d31397fa27bfd7ce861e", func := "loop.example/g01232/laws.FnExactIsHalved", spec := "fnExactIsHalved", apart := false }
def FnExactIsHalvedSaid : Prop := fnExactIsHalvedRow.holds Try.pinned (OpenSpec.ofChange fnExactIsHalvedSpec)

/-- ITS FALSE NEIGHBOUR: 'it returns false'. Refute it at one input. -/
def fnExactIsHalvedWrong : ChangeSpec := { name := "fnExactIsHalved", fn := fun _ => fun
  | [d1, d2] => { results := [.lit (.bool false)], args := [d1, d2] }
  | _ => none }
def FnExactIsHalvedWrongFalsely : Prop := fnExactIsHalvedRow.holds Try.pinned (OpenSpec.ofChange fnExactIsHalvedWrong)

/-- 'laws.FnExactLeastDots': WHATEVER THE INPUT: true; the input reads as it did. -/
def fnExactLeastDotsSpec : ChangeSpec := { name := "fnExactLeastDots", fn := fun _ => fun
  | [d] => { results := [.lit (.bool true)], args := [d] }
  | _ => none }
def fnExactLeastDotsRow : OpenClaim := { program := "ytpabfibmpannoaa", sum := "83362358c2b7ab4cfafb506e78968592a57991e5e651d31397fa27bfd7ce861e", func := "loop.example/g01232/laws.FnExactLeastDots", spec := "fnExactLeastDots", apart := false }
def FnExactLeastDotsSaid : Prop := fnExactLeastDotsRow.holds Try.pinned (OpenSpec.ofChange fnExactLeastDotsSpec)

/-- ITS FALSE NEIGHBOUR: 'it returns false'. Refute it at one input. -/
def fnExactLeastDotsWrong : ChangeSpec := { name := "fnExactLeastDots", fn := fun _ => fun
  | [d] => { results := [.lit (.bool false)], args := [d] }
  | _ => none }
def FnExactLeastDotsWrongFalsely : Prop := fnExactLeastDotsRow.holds Try.pinned (OpenSpec.ofChange fnExactLeastDotsWrong)

/-- 'laws.FnExactFamilyOfTriples': WHATEVER THE INPUT: true; the input reads as it did. -/
def fnExactFamilyOfTriplesSpec : ChangeSpec := { name := "fnExactFamilyOfTriples", fn := fun _ => fun
  | [d1, d2] => { results := [.lit (.bool true)], args := [d1, d2] }
  | _ => none }
def fnExactFamilyOfTriplesRow : OpenClaim := { program := "ytpabfibmpannoaa", sum := "83362358c2b7ab4cfafb506e78968592a57991e5e651d31397fa27bfd7ce861e", func := "loop.example/g01232/laws.FnExactFamilyOfTriples", spec := "fnExactFamilyOfTriples", apart := false }
def FnExactFamilyOfTriplesSaid : Prop := fnExactFamilyOfTriplesRow.holds Try.pinned (OpenSpec.ofChange fnExactFamilyOfTriplesSpec)

/-- ITS FALSE NEIGHBOUR: 'it returns false'. Refute it at one input. -/
def fnExactFamilyOfTriplesWrong : ChangeSpec := { name := "fnExactFamilyOfTriples", fn := fun _ => fun
  | [d1, d2] => { results := [.lit (.bool false)], args := [d1, d2] }
  | _ => none }
def FnExactFamilyOfTriplesWrongFalsely : Prop := fnExactFamilyOfTriplesRow.holds Try.pinned (OpenSpec.ofChange fnExactFamilyOfTriplesWrong)

/-- 'laws.FnExactLabelsOfRow': WHATEVER THE INPUT: true; the input reads as it did. -/
def fnExactLabelsOfRowSpec : ChangeSpec := { name := "fnExactLabelsOfRow", fn := fun _ => fun
  | [d] => { results := [.lit (.bool true)], args := [d] }
  | _ => none }
def fnExactLabelsOfRowRow : OpenClaim := { program := "ytpabfibmpannoaa", sum := "83362358c2b7ab4cfafb506e78968592a57991e5e651d31397fa27bfd7ce861e", func := "loop.example/g01232/laws.FnExactLabelsOfRow", spec := "fnExactLabelsOfRow", apart := false }
def FnExactLabelsOfRowSaid : Prop := fnExactLabelsOfRowRow.holds Try.pinned (OpenSpec.ofChange fnExactLabelsOfRowSpec)

/-- ITS FALSE NEIGHBOUR: 'it returns false'. Refute it at one input. -/
def fnExactLabelsOfRowWrong : ChangeSpec := { name := "fnExactLabelsOfRow", fn := fun _ => fun
  | [d] => { results := [.lit (.bool false)], args := [d] }
  | _ => none }
def FnExactLabelsOfRowWrongFalsely : Prop := fnExactLabelsOfRowRow.holds Try.pinned (OpenSpec.ofChange fnExactLabelsOfRowWrong)

/-- 'laws.FnExactCombLabels': WHATEVER THE INPUT: true; the input reads as it did. -/
def fnExactCombLabelsSpec : ChangeSpec := { name := "fnExactCombLabels", fn := fun _ => fun
  | [d] => { results := [.lit (.bool true)], args := [d] }
  | _ => none }
def fnExactCombLabelsRow : OpenClaim := { program := "ytpabfibmpannoaa", sum := "83362358c2b7ab4cfafb506e78968592a57991e5e651d31397fa27bfd7ce861e", func := "loop.example/g01232/laws.FnExactCombLabels", spec := "fnExactCombLabels", unfollowed := true, recurses := true, apart := false }
def FnExactCombLabelsSaid : Prop := fnExactCombLabelsRow.holds Try.pinned (OpenSpec.ofChange fnExactCombLabelsSpec)

/-- ITS FALSE NEIGHBOUR: 'it returns false'. Refute it at one input. -/
def fnExactCombLabelsWrong : ChangeSpec := { name := "fnExactCombLabels", fn := fun _ => fun
  | [d] => { results := [.lit (.bool false)], args := [d] }
  | _ => none }
def FnExactCombLabelsWrongFalsely : Prop := fnExactCombLabelsRow.holds Try.pinned (OpenSpec.ofChange fnExactCombLabelsWrong)

/- THE SECOND FORM. 'bulk': how many values and letters a reading holds, each counted each time it is reached (what is shared counts as often as it is met; a slice's spare places count too). A statement '..UptoSaid' is the law's where the arguments, and the package variables that the reading takes, are together of bulk at most 1048576: NARROWER than '..Said'. Prove '..Said' where nothing that the law and all that it calls make is longer than what came in: it says more and counts as full. Else prove '..UptoSaid'. A law counts once. -/
mutual
def uptoBulk {H : Type} : DataW H → Nat
  | .lit (.string bytes) => bytes.length + 1
  | .lit _ => 1
  | .nil => 1
  | .ptr d => uptoBulk d + 1
  | .slice elems spare => uptoBulkAll elems + uptoBulkAll spare + 1
  | .agg parts => uptoBulkAll parts + 1
  | .iface _ d => uptoBulk d + 1
  | .map entries => uptoBulkEntries entries + 1
  | .held _ => 1
def uptoBulkAll {H : Type} : List (DataW H) → Nat
  | [] => 0
  | d :: r => uptoBulk d + uptoBulkAll r
def uptoBulkEntries {H : Type} : List (Lit × DataW H) → Nat
  | [] => 0
  | x :: r => uptoBulkEntry x + uptoBulkEntries r
def uptoBulkEntry {H : Type} : Lit × DataW H → Nat
  | (.string bytes, d) => bytes.length + uptoBulk d + 1
  | (_, d) => uptoBulk d + 1
 end
def uptoSmall : (H : Type) → List (DataW H) → Bool := fun _ ds => decide (uptoBulkAll ds ≤ 1048576)
def OpenSpec.upto (s : _root_.Go.ChangeSpec) : _root_.Go.OpenSpec := { _root_.Go.OpenSpec.ofChange s with cond := some uptoSmall }

/-- 'laws.FnExactAreFamily', WHERE WHAT IT READS IS OF BULK AT MOST 1048576: true; the input reads as it did. -/
def fnExactAreFamilyUptoRow : OpenClaim := { program := "ytpabfibmpannoaa", sum := "83362358c2b7ab4cfafb506e78968592a57991e5e651d31397fa27bfd7ce861e", func := "loop.example/g01232/laws.FnExactAreFamily", spec := "fnExactAreFamily", apart := false, narrowed := true }
def FnExactAreFamilyUptoSaid : Prop := fnExactAreFamilyUptoRow.holds Try.pinned (OpenSpec.upto fnExactAreFamilySpec)

/-- 'laws.FnExactIsHalved', WHERE WHAT IT READS IS OF BULK AT MOST 1048576: true; the input reads as it did. -/
def fnExactIsHalvedUptoRow : OpenClaim := { program := "ytpabfibmpannoaa", sum := "83362358c2b7ab4cfafb506e78968592a57991e5e651d31397fa27bfd7ce861e", func := "loop.example/g01232/laws.FnExactIsHalved", spec := "fnExactIsHalved", apart := false, narrowed := true }
def FnExactIsHalvedUptoSaid : Prop := fnExactIsHalvedUptoRow.holds Try.pinned (OpenSpec.upto fnExactIsHalvedSpec)

/-- 'laws.FnExactLeastDots', WHERE WHAT IT READS IS OF BULK AT MOST 1048576: true; the input reads as it did. -/
def fnExactLeastDotsUptoRow : OpenClaim := { program := "ytpabfibmpannoaa", sum := "83362358c2b7ab4cfafb506e78968592a57991e5e651d31397fa27bfd7ce861e", func := "loop.example/g01232/laws.FnExactLeastDots", spec := "fnExactLeastDots", apart := false, narrowed := true }
def FnExactLeastDotsUptoSaid : Prop := fnExactLeastDotsUptoRow.holds Try.pinned (OpenSpec.upto fnExactLeastDotsSpec)

/-- 'laws.FnExactFamilyOfTriples', WHERE WHAT IT READS IS OF BULK AT MOST 1048576: true; the input reads as it did. -/
def fnExactFamilyOfTriplesUptoRow : OpenClaim := { program := "ytpabfibmpannoaa", sum := "83362358c2b7ab4cfafb506e78968592a57991e5e651d31397fa27bfd7ce861e", func := "loop.example/g01232/laws.FnExactFamilyOfTriples", spec := "fnExactFamilyOfTriples", apart := false, narrowed := true }
def FnExactFamilyOfTriplesUptoSaid : Prop := fnExactFamilyOfTriplesUptoRow.holds Try.pinned (OpenSpec.upto fnExactFamilyOfTriplesSpec)

/-- 'laws.FnExactLabelsOfRow', WHERE WHAT IT READS IS OF BULK AT MOST 1048576: true; the input reads as it did. -/
def fnExactLabelsOfRowUptoRow : OpenClaim := { program := "ytpabfibmpannoaa", sum := "83362358c2b7ab4cfafb506e78968592a57991e5e651d31397fa27bfd7ce861e", func := "loop.example/g01232/laws.FnExactLabelsOfRow", spec := "fnExactLabelsOfRow", apart := false, narrowed := true }
def FnExactLabelsOfRowUptoSaid : Prop := fnExactLabelsOfRowUptoRow.holds Try.pinned (OpenSpec.upto fnExactLabelsOfRowSpec)

/-- 'laws.FnExactCombLabels', WHERE WHAT IT READS IS OF BULK AT MOST 1048576: true; the input reads as it did. -/
def fnExactCombLabelsUptoRow : OpenClaim := { program := "ytpabfibmpannoaa", sum := "83362358c2b7ab4cfafb506e78968592a57991e5e651d31397fa27bfd7ce861e", func := "loop.example/g01232/laws.FnExactCombLabels", spec := "fnExactCombLabels", unfollowed := true, recurses := true, apart := false, narrowed := true }
def FnExactCombLabelsUptoSaid : Prop := fnExactCombLabelsUptoRow.holds Try.pinned (OpenSpec.upto fnExactCombLabelsSpec)

end Rows
end Go.Proofs.Ytpabfibmpannoaa
