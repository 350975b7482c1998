-- PRINTED BY print.sh 35421559b90ae4d0a3588c463048766b98c2df88dd9212a6774a882060cdf62d: not written by this session
import Derived.Test.YtkhnglfecfmhlaaProg
import Derived.Below
import Derived.Deep.Draws
import Derived.Deep.AppendLies
import Derived.Maps.AppendAt
import Derived.OwnWalk
import Derived.Laws.BytesArg
import Derived.Laws.MakeOwn
import Derived.Laws.OwnMore
import Derived.Deep.OwnRows
import Derived.Tactics
import Derived.Lib.ConvBytes
import Derived.Laws.Slices
import Derived.WalkKit
import Derived.KernelRfl
import Derived.RowKit3
import Derived.Deep.LoopGhost
import Derived.Deep.QuietTactic
import Derived.BigQuiet
import Derived.WideLaws
import Derived.Deep.DeepCutAuto
import Derived.Deep.CutBlock
import Derived.Deep.RegionHeld3
import Derived.Laws.Rows
import Derived.Lib.AppendStr
import Derived.ArgAppend
import Derived.Laws.IdiomCopy
import Derived.OrdersHeld
import Derived.Laws.BitsLemmas
import Derived.RowKit
import Derived.Test.YtkhnglfecfmhlaaWWords
import Derived.Test.YtkhnglfecfmhlaaWLast
import Derived.Test.YtkhnglfecfmhlaaWTab
import Derived.Test.YtkhnglfecfmhlaaWFour
import Derived.Test.YtkhnglfecfmhlaaWQPut
import Derived.Test.YtkhnglfecfmhlaaWApart
import Derived.Test.YtkhnglfecfmhlaaWArr
import Derived.Test.YtkhnglfecfmhlaaWZeros
import Derived.Test.YtkhnglfecfmhlaaWFoot
import Derived.Test.YtkhnglfecfmhlaaWKept
import Derived.Test.YtkhnglfecfmhlaaWShare
import Derived.Test.YtkhnglfecfmhlaaWN
import Derived.Test.YtkhnglfecfmhlaaWFootNe
import Derived.Test.YtkhnglfecfmhlaaWAt
import Derived.Test.YtkhnglfecfmhlaaWEqStruct
import Derived.Test.YtkhnglfecfmhlaaWRepsOne
import Derived.Test.YtkhnglfecfmhlaaWInv
import Derived.Test.YtkhnglfecfmhlaaWInvWords
import Derived.Test.YtkhnglfecfmhlaaWGuard
import Derived.Test.YtkhnglfecfmhlaaWNEv
import Derived.Test.YtkhnglfecfmhlaaWMore
namespace Go.Proofs.Ytkhnglfecfmhlaa.PFnExactLocalOf
open Go.RowKit Go.Proofs.YtkhnglfecfmhlaaW.PrintWords Go.Proofs.YtkhnglfecfmhlaaW.PrintLast Go.Proofs.YtkhnglfecfmhlaaW.PrintMore
attribute [local go_sem] max2_int min2_int max_two min_two max_three min_three max_four min_four   -- for this text's walks alone
set_option linter.unusedVariables false
set_option linter.unusedSimpArgs false



def errW : Option Int → Value
  | none => .nilIface
  | some c => .iface 0 (.int .i64 c)
theorem errW_none : errW none = .nilIface := rfl
theorem errW_some (c : Int) : errW (some c) = .iface 0 (.int .i64 c) := rfl

-- the values' own types

end Go.Proofs.Ytkhnglfecfmhlaa.PFnExactLocalOf
