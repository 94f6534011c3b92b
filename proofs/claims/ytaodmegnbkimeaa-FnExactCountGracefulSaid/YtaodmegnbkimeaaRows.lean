/-
  No cell of these rows narrows 'for every input' (looked for: loops, veiled, ifaces, maps, wideKeys, modest, calm, conditions, laid).
  DERIVED. THE GIVEN ROWS OF THIS SEAT. 3 by the template 'for every input the law returns true; each argument reads behind the call as it read before'; 0 by the template 'total and deterministic' (their statements: YtaodmegnbkimeaaTotals.lean).
  GIVEN WITH THE SEED: the statements are not yours to turn. If you find one false, say at which input.
  Laid BY PROGRAM, IN A SANDBOX (cutbox-rows.mjs): the forced cells as the released guide's own fill.sh prints them over the translation 4daf6c57254dec99… (all of the seat's roots in one cut). By AI agents, Wed Nov 11 2026. No macro, syntax, notation, axiom, sorry.
-/
import Derived.Test.YtaodmegnbkimeaaChecked
import GoSem.Claim
import GoSem.ClaimJoined
import GoSem.ClaimMapViews
import Derived.JoinedTies
import Derived.KernelRfl
namespace Go.Proofs.Ytaodmegnbkimeaa
/- THE CELL 'sum', in the pinned program and in every row, IS THE sha256 OF THE DUMP (.gsa) THAT YtaodmegnbkimeaaProg.lean LOADS. Nothing in Lean hashes anything: it is a label: what it is worth is what the hold of that sum in a sandbox is worth. -/
noncomputable def Try.pinned : Pinned := { name := "ytaodmegnbkimeaa", sum := "4daf6c57254dec991f4e7d82d2d68ff44d93009e2099058a8dfaba03cc797f67", checked := Try.checked }
namespace Rows
def none {H : Type} : Left H := { results := [], args := [] }

/-- 'laws.FnExactCountGraceful': WHATEVER THE INPUT: true; the input reads as it did. -/
def fnExactCountGracefulSpec : ChangeSpec := { name := "fnExactCountGraceful", fn := fun _ => fun
  | [d] => { results := [.lit (.bool true)], args := [d] }
  | _ => none }
def fnExactCountGracefulRow : OpenClaim := { program := "ytaodmegnbkimeaa", sum := "4daf6c57254dec991f4e7d82d2d68ff44d93009e2099058a8dfaba03cc797f67", func := "loop.example/g01232/laws.FnExactCountGraceful", spec := "fnExactCountGraceful", unfollowed := true, recurses := true, apart := false }
def FnExactCountGracefulSaid : Prop := fnExactCountGracefulRow.holds Try.pinned (OpenSpec.ofChange fnExactCountGracefulSpec)

/-- ITS FALSE NEIGHBOUR: 'it returns false'. Refute it at one input. -/
def fnExactCountGracefulWrong : ChangeSpec := { name := "fnExactCountGraceful", fn := fun _ => fun
  | [d] => { results := [.lit (.bool false)], args := [d] }
  | _ => none }
def FnExactCountGracefulWrongFalsely : Prop := fnExactCountGracefulRow.holds Try.pinned (OpenSpec.ofChange fnExactCountGracefulWrong)

/-- 'laws.FnExactFirstGraceful': WHATEVER THE INPUT: true; the input reads as it did. -/
def fnExactFirstGracefulSpec : ChangeSpec := { name := "fnExactFirstGraceful", fn := fun _ => fun
  | [d] => { results := [.lit (.bool true)], args := [d] }
  | _ => none }
def fnExactFirstGracefulRow : OpenClaim := { program := "ytaodmegnbkimeaa", sum := "4daf6c57254dec991f4e7d82d2d68ff44d93009e2099058a8dfaba03cc797f67", func := "loop.example/g01232/laws.FnExactFirstGraceful", spec := "fnExactFirstGraceful", unfollowed := true, recurses := true, apart := false }
def FnExactFirstGracefulSaid : Prop := fnExactFirstGracefulRow.holds Try.pinned (OpenSpec.ofChange fnExactFirstGracefulSpec)

/-- ITS FALSE NEIGHBOUR: 'it returns false'. Refute it at one input. -/
def fnExactFirstGracefulWrong : ChangeSpec := { name := "fnExactFirstGraceful", fn := fun _ => fun
  | [d] => { results := [.lit (.bool false)], args := [d] }
  | _ => none }
def FnExactFirstGracefulWrongFalsely : Prop := fnExactFirstGracefulRow.holds Try.pinned (OpenSpec.ofChange fnExactFirstGracefulWrong)

/-- 'laws.FnExactFirstRing': WHATEVER THE INPUT: true; the input reads as it did. -/
def fnExactFirstRingSpec : ChangeSpec := { name := "fnExactFirstRing", fn := fun _ => fun
  | [d] => { results := [.lit (.bool true)], args := [d] }
  | _ => none }
def fnExactFirstRingRow : OpenClaim := { program := "ytaodmegnbkimeaa", sum := "4daf6c57254dec991f4e7d82d2d68ff44d93009e2099058a8dfaba03cc797f67", func := "loop.example/g01232/laws.FnExactFirstRing", spec := "fnExactFirstRing", recurses := true, apart := false }
def FnExactFirstRingSaid : Prop := fnExactFirstRingRow.holds Try.pinned (OpenSpec.ofChange fnExactFirstRingSpec)

/-- ITS FALSE NEIGHBOUR: 'it returns false'. Refute it at one input. -/
def fnExactFirstRingWrong : ChangeSpec := { name := "fnExactFirstRing", fn := fun _ => fun
  | [d] => { results := [.lit (.bool false)], args := [d] }
  | _ => none }
def FnExactFirstRingWrongFalsely : Prop := fnExactFirstRingRow.holds Try.pinned (OpenSpec.ofChange fnExactFirstRingWrong)

/- THE SECOND FORM. 'bulk': how many values and letters a reading holds, each counted each time it is reached (what is shared counts as often as it is met; a slice's spare places count too). A statement '..UptoSaid' is the law's where the arguments, and the package variables that the reading takes, are together of bulk at most 1048576: NARROWER than '..Said'. Prove '..Said' where nothing that the law and all that it calls make is longer than what came in: it says more and counts as full. Else prove '..UptoSaid'. A law counts once. -/
mutual
def uptoBulk {H : Type} : DataW H → Nat
  | .lit (.string bytes) => bytes.length + 1
  | .lit _ => 1
  | .nil => 1
  | .ptr d => uptoBulk d + 1
  | .slice elems spare => uptoBulkAll elems + uptoBulkAll spare + 1
  | .agg parts => uptoBulkAll parts + 1
  | .iface _ d => uptoBulk d + 1
  | .map entries => uptoBulkEntries entries + 1
  | .held _ => 1
def uptoBulkAll {H : Type} : List (DataW H) → Nat
  | [] => 0
  | d :: r => uptoBulk d + uptoBulkAll r
def uptoBulkEntries {H : Type} : List (Lit × DataW H) → Nat
  | [] => 0
  | x :: r => uptoBulkEntry x + uptoBulkEntries r
def uptoBulkEntry {H : Type} : Lit × DataW H → Nat
  | (.string bytes, d) => bytes.length + uptoBulk d + 1
  | (_, d) => uptoBulk d + 1
 end
def uptoSmall : (H : Type) → List (DataW H) → Bool := fun _ ds => decide (uptoBulkAll ds ≤ 1048576)
def OpenSpec.upto (s : _root_.Go.ChangeSpec) : _root_.Go.OpenSpec := { _root_.Go.OpenSpec.ofChange s with cond := some uptoSmall }

/-- 'laws.FnExactCountGraceful', WHERE WHAT IT READS IS OF BULK AT MOST 1048576: true; the input reads as it did. -/
def fnExactCountGracefulUptoRow : OpenClaim := { program := "ytaodmegnbkimeaa", sum := "4daf6c57254dec991f4e7d82d2d68ff44d93009e2099058a8dfaba03cc797f67", func := "loop.example/g01232/laws.FnExactCountGraceful", spec := "fnExactCountGraceful", unfollowed := true, recurses := true, apart := false, narrowed := true }
def FnExactCountGracefulUptoSaid : Prop := fnExactCountGracefulUptoRow.holds Try.pinned (OpenSpec.upto fnExactCountGracefulSpec)

/-- 'laws.FnExactFirstGraceful', WHERE WHAT IT READS IS OF BULK AT MOST 1048576: true; the input reads as it did. -/
def fnExactFirstGracefulUptoRow : OpenClaim := { program := "ytaodmegnbkimeaa", sum := "4daf6c57254dec991f4e7d82d2d68ff44d93009e2099058a8dfaba03cc797f67", func := "loop.example/g01232/laws.FnExactFirstGraceful", spec := "fnExactFirstGraceful", unfollowed := true, recurses := true, apart := false, narrowed := true }
def FnExactFirstGracefulUptoSaid : Prop := fnExactFirstGracefulUptoRow.holds Try.pinned (OpenSpec.upto fnExactFirstGracefulSpec)

/-- 'laws.FnExactFirstRing', WHERE WHAT IT READS IS OF BULK AT MOST 1048576: true; the input reads as it did. -/
def fnExactFirstRingUptoRow : OpenClaim := { program := "ytaodmegnbkimeaa", sum := "4daf6c57254dec991f4e7d82d2d68ff44d93009e2099058a8dfaba03cc797f67", func := "loop.example/g01232/laws.FnExactFirstRing", spec := "fnExactFirstRing", recurses := true, apart := false, narrowed := true }
def FnExactFirstRingUptoSaid : Prop := fnExactFirstRingUptoRow.holds Try.pinned (OpenSpec.upto fnExactFirstRingSpec)

end Rows
end Go.Proofs.Ytaodmegnbkimeaa
