-- Written by wip/gen/pp.py (the kit's printer, turned): Lean checks it.
import Derived.Test.YtlclbdfcniiolaaProg
import Derived.Below
import Derived.Deep.Draws
import Derived.Deep.AppendLies
import Derived.Maps.AppendAt
import Derived.OwnWalk
import Derived.Laws.BytesArg
import Derived.Laws.MakeOwn
import Derived.Laws.OwnMore
import Derived.Deep.OwnRows
import Derived.Tactics
import Derived.Lib.ConvBytes
import Derived.Laws.Slices
import Derived.WalkKit
import Derived.KernelRfl
import Derived.RowKit3
import Derived.Deep.LoopGhost
import Derived.Deep.QuietTactic
import Derived.BigQuiet
import Derived.WideLaws
import Derived.Deep.DeepCutAuto
import Derived.Deep.CutBlock
import Derived.Deep.RegionHeld3
import Derived.Laws.Rows
import Derived.Lib.AppendStr
import Derived.ArgAppend
import Derived.Laws.IdiomCopy
import Derived.OrdersHeld
import Derived.Laws.BitsLemmas
import Derived.RowKit
import Derived.Test.YtlclbdfcniiolaaWWords
import Derived.Test.YtlclbdfcniiolaaWLast
import Derived.Test.YtlclbdfcniiolaaWTab
import Derived.Test.YtlclbdfcniiolaaWQPut
import Derived.Test.YtlclbdfcniiolaaWApart
import Derived.Test.YtlclbdfcniiolaaWArr
import Derived.Test.YtlclbdfcniiolaaWZeros
import Derived.Test.YtlclbdfcniiolaaWFoot
import Derived.Test.YtlclbdfcniiolaaWKept
import Derived.Test.YtlclbdfcniiolaaWShare
import Derived.Test.YtlclbdfcniiolaaWN
import Derived.Test.YtlclbdfcniiolaaWEqStruct
import Derived.Test.YtlclbdfcniiolaaWRepsOne
import Derived.Test.YtlclbdfcniiolaaWNEv
import Derived.Test.YtlclbdfcniiolaaWMore
import Derived.Test.YtlclbdfcniiolaaHandA
import Derived.Test.YtlclbdfcniiolaaHandC
import Derived.Test.YtlclbdfcniiolaaHandD
import Derived.Test.YtlclbdfcniiolaaHandFd
import Derived.Test.YtlclbdfcniiolaaHandGv
namespace Go.Proofs.Ytlclbdfcniiolaa.B
open Go.RowKit Go.Proofs.YtlclbdfcniiolaaW.PrintWords Go.Proofs.YtlclbdfcniiolaaW.PrintLast Go.Proofs.YtlclbdfcniiolaaW.PrintMore Go.Proofs.Ytlclbdfcniiolaa.Hand
attribute [local go_sem] max2_int min2_int max_two min_two max_three min_three max_four min_four   -- for this text's walks alone
set_option linter.unusedVariables false
set_option linter.unusedSimpArgs false



def errW : Option Int → Value
  | none => .nilIface
  | some c => .iface 0 (.int .i64 c)
theorem errW_none : errW none = .nilIface := rfl
theorem errW_some (c : Int) : errW (some c) = .iface 0 (.int .i64 c) := rfl

-- the values' own types

end Go.Proofs.Ytlclbdfcniiolaa.B
