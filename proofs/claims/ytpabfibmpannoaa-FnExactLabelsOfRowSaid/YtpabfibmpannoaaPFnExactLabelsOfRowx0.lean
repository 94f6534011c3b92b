-- PRINTED BY print.sh 35421559b90ae4d0a3588c463048766b98c2df88dd9212a6774a882060cdf62d: not written by this session
import Derived.Test.YtpabfibmpannoaaProg
import Derived.Below
import Derived.Deep.Draws
import Derived.Deep.AppendLies
import Derived.Maps.AppendAt
import Derived.OwnWalk
import Derived.Laws.BytesArg
import Derived.Laws.MakeOwn
import Derived.Laws.OwnMore
import Derived.Deep.OwnRows
import Derived.Tactics
import Derived.Lib.ConvBytes
import Derived.Laws.Slices
import Derived.WalkKit
import Derived.KernelRfl
import Derived.RowKit3
import Derived.Deep.LoopGhost
import Derived.Deep.QuietTactic
import Derived.BigQuiet
import Derived.WideLaws
import Derived.Deep.DeepCutAuto
import Derived.Deep.CutBlock
import Derived.Deep.RegionHeld3
import Derived.Laws.Rows
import Derived.Lib.AppendStr
import Derived.ArgAppend
import Derived.Laws.IdiomCopy
import Derived.OrdersHeld
import Derived.Laws.BitsLemmas
import Derived.RowKit
import Derived.Test.YtpabfibmpannoaaWWords
import Derived.Test.YtpabfibmpannoaaWLast
import Derived.Test.YtpabfibmpannoaaWTab
import Derived.Test.YtpabfibmpannoaaWFour
import Derived.Test.YtpabfibmpannoaaWQPut
import Derived.Test.YtpabfibmpannoaaWApart
import Derived.Test.YtpabfibmpannoaaWArr
import Derived.Test.YtpabfibmpannoaaWZeros
import Derived.Test.YtpabfibmpannoaaWFoot
import Derived.Test.YtpabfibmpannoaaWKept
import Derived.Test.YtpabfibmpannoaaWShare
import Derived.Test.YtpabfibmpannoaaWN
import Derived.Test.YtpabfibmpannoaaWFootNe
import Derived.Test.YtpabfibmpannoaaWAt
import Derived.Test.YtpabfibmpannoaaWEqStruct
import Derived.Test.YtpabfibmpannoaaWRepsOne
import Derived.Test.YtpabfibmpannoaaWInv
import Derived.Test.YtpabfibmpannoaaWInvWords
import Derived.Test.YtpabfibmpannoaaWGuard
import Derived.Test.YtpabfibmpannoaaWNEv
import Derived.Test.YtpabfibmpannoaaWMore
namespace Go.Proofs.Ytpabfibmpannoaa.PFnExactLabelsOfRow
open Go.RowKit Go.Proofs.YtpabfibmpannoaaW.PrintWords Go.Proofs.YtpabfibmpannoaaW.PrintLast Go.Proofs.YtpabfibmpannoaaW.PrintMore
attribute [local go_sem] max2_int min2_int max_two min_two max_three min_three max_four min_four   -- for this text's walks alone
set_option linter.unusedVariables false
set_option linter.unusedSimpArgs false



def errW : Option Int → Value
  | none => .nilIface
  | some c => .iface 0 (.int .i64 c)
theorem errW_none : errW none = .nilIface := rfl
theorem errW_some (c : Int) : errW (some c) = .iface 0 (.int .i64 c) := rfl

theorem info3 : (Try.prog.info? 3).map (fun i => (i.zero, i.size, i.bytes)) = some (some (.int .i64 0), 1, 8) := by kernel_rfl
-- the values' own types

end Go.Proofs.Ytpabfibmpannoaa.PFnExactLabelsOfRow
