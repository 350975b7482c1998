-- Written by wip/gen/pp.py (the kit's printer, turned): Lean checks it.
import Derived.Test.YtpgiklbaoikogaaProg
import Derived.Below
import Derived.Deep.Draws
import Derived.Deep.AppendLies
import Derived.Maps.AppendAt
import Derived.OwnWalk
import Derived.Laws.BytesArg
import Derived.Laws.MakeOwn
import Derived.Laws.OwnMore
import Derived.Deep.OwnRows
import Derived.Tactics
import Derived.Lib.ConvBytes
import Derived.Laws.Slices
import Derived.WalkKit
import Derived.KernelRfl
import Derived.RowKit3
import Derived.Deep.LoopGhost
import Derived.Deep.QuietTactic
import Derived.BigQuiet
import Derived.WideLaws
import Derived.Deep.DeepCutAuto
import Derived.Deep.CutBlock
import Derived.Deep.RegionHeld3
import Derived.Laws.Rows
import Derived.Lib.AppendStr
import Derived.ArgAppend
import Derived.Laws.IdiomCopy
import Derived.OrdersHeld
import Derived.Laws.BitsLemmas
import Derived.RowKit
import Derived.Test.YtpgiklbaoikogaaWWords
import Derived.Test.YtpgiklbaoikogaaWLast
import Derived.Test.YtpgiklbaoikogaaWTab
import Derived.Test.YtpgiklbaoikogaaWFour
import Derived.Test.YtpgiklbaoikogaaWQPut
import Derived.Test.YtpgiklbaoikogaaWApart
import Derived.Test.YtpgiklbaoikogaaWArr
import Derived.Test.YtpgiklbaoikogaaWZeros
import Derived.Test.YtpgiklbaoikogaaWFoot
import Derived.Test.YtpgiklbaoikogaaWKept
import Derived.Test.YtpgiklbaoikogaaWShare
import Derived.Test.YtpgiklbaoikogaaWN
import Derived.Test.YtpgiklbaoikogaaWFootNe
import Derived.Test.YtpgiklbaoikogaaWAt
import Derived.Test.YtpgiklbaoikogaaWEqStruct
import Derived.Test.YtpgiklbaoikogaaWRepsOne
import Derived.Test.YtpgiklbaoikogaaWInv
import Derived.Test.YtpgiklbaoikogaaWInvWords
import Derived.Test.YtpgiklbaoikogaaWGuard
import Derived.Test.YtpgiklbaoikogaaWNEv
import Derived.Test.YtpgiklbaoikogaaWMore
import Derived.Test.YtpgiklbaoikogaaHandA
import Derived.Test.YtpgiklbaoikogaaHandC
import Derived.Test.YtpgiklbaoikogaaHandCs
import Derived.Test.YtpgiklbaoikogaaHandD
import Derived.Test.YtpgiklbaoikogaaHandFd
import Derived.Test.YtpgiklbaoikogaaHandIv
namespace Go.Proofs.Ytpgiklbaoikogaa.B
open Go.RowKit Go.Proofs.YtpgiklbaoikogaaW.PrintWords Go.Proofs.YtpgiklbaoikogaaW.PrintLast Go.Proofs.YtpgiklbaoikogaaW.PrintMore Go.Proofs.Ytpgiklbaoikogaa.Hand
attribute [local go_sem] max2_int min2_int max_two min_two max_three min_three max_four min_four   -- for this text's walks alone
set_option linter.unusedVariables false
set_option linter.unusedSimpArgs false



def errW : Option Int → Value
  | none => .nilIface
  | some c => .iface 0 (.int .i64 c)
theorem errW_none : errW none = .nilIface := rfl
theorem errW_some (c : Int) : errW (some c) = .iface 0 (.int .i64 c) := rfl

-- the values' own types

end Go.Proofs.Ytpgiklbaoikogaa.B
