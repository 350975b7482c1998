-- Written by wip/gen/pp.py (the kit's printer, turned): Lean checks it.
import Derived.Test.YtagdfjbbnhdpiaaProg
import Derived.Below
import Derived.Deep.Draws
import Derived.Deep.AppendLies
import Derived.Maps.AppendAt
import Derived.OwnWalk
import Derived.Laws.BytesArg
import Derived.Laws.MakeOwn
import Derived.Laws.OwnMore
import Derived.Deep.OwnRows
import Derived.Tactics
import Derived.Lib.ConvBytes
import Derived.Laws.Slices
import Derived.WalkKit
import Derived.KernelRfl
import Derived.RowKit3
import Derived.Deep.LoopGhost
import Derived.Deep.QuietTactic
import Derived.BigQuiet
import Derived.WideLaws
import Derived.Deep.DeepCutAuto
import Derived.Deep.CutBlock
import Derived.Deep.RegionHeld3
import Derived.Laws.Rows
import Derived.Lib.AppendStr
import Derived.ArgAppend
import Derived.Laws.IdiomCopy
import Derived.OrdersHeld
import Derived.Laws.BitsLemmas
import Derived.RowKit
import Derived.Test.YtagdfjbbnhdpiaaWWords
import Derived.Test.YtagdfjbbnhdpiaaWLast
import Derived.Test.YtagdfjbbnhdpiaaWTab
import Derived.Test.YtagdfjbbnhdpiaaWFour
import Derived.Test.YtagdfjbbnhdpiaaWQPut
import Derived.Test.YtagdfjbbnhdpiaaWApart
import Derived.Test.YtagdfjbbnhdpiaaWArr
import Derived.Test.YtagdfjbbnhdpiaaWZeros
import Derived.Test.YtagdfjbbnhdpiaaWFoot
import Derived.Test.YtagdfjbbnhdpiaaWKept
import Derived.Test.YtagdfjbbnhdpiaaWShare
import Derived.Test.YtagdfjbbnhdpiaaWN
import Derived.Test.YtagdfjbbnhdpiaaWFootNe
import Derived.Test.YtagdfjbbnhdpiaaWAt
import Derived.Test.YtagdfjbbnhdpiaaWEqStruct
import Derived.Test.YtagdfjbbnhdpiaaWRepsOne
import Derived.Test.YtagdfjbbnhdpiaaWInv
import Derived.Test.YtagdfjbbnhdpiaaWInvWords
import Derived.Test.YtagdfjbbnhdpiaaWGuard
import Derived.Test.YtagdfjbbnhdpiaaWNEv
import Derived.Test.YtagdfjbbnhdpiaaWMore
import Derived.Test.YtagdfjbbnhdpiaaHandA
import Derived.Test.YtagdfjbbnhdpiaaHandC
import Derived.Test.YtagdfjbbnhdpiaaHandD
import Derived.Test.YtagdfjbbnhdpiaaHandE
import Derived.Test.YtagdfjbbnhdpiaaHandF
import Derived.Test.YtagdfjbbnhdpiaaHandWf
namespace Go.Proofs.Ytagdfjbbnhdpiaa.Q
open Go.RowKit Go.Proofs.YtagdfjbbnhdpiaaW.PrintWords Go.Proofs.YtagdfjbbnhdpiaaW.PrintLast Go.Proofs.YtagdfjbbnhdpiaaW.PrintMore Go.Proofs.Ytagdfjbbnhdpiaa.Hand
attribute [local go_sem] max2_int min2_int max_two min_two max_three min_three max_four min_four   -- for this text's walks alone
set_option linter.unusedVariables false
set_option linter.unusedSimpArgs false



def errW : Option Int → Value
  | none => .nilIface
  | some c => .iface 0 (.int .i64 c)
theorem errW_none : errW none = .nilIface := rfl
theorem errW_some (c : Int) : errW (some c) = .iface 0 (.int .i64 c) := rfl

theorem info3 : (Try.prog.info? 3).map (fun i => (i.zero, i.size, i.bytes)) = some (some (.int .i64 0), 1, 8) := by kernel_rfl
theorem info5 : (Try.prog.info? 5).map (fun i => (i.zero, i.size, i.bytes)) = some (some (.int .u8 0), 1, 1) := by kernel_rfl
theorem info20 : (Try.prog.info? 20).map (fun i => (i.zero, i.size, i.bytes)) = some (some (.nilIface), 1, 16) := by kernel_rfl
-- the values' own types

end Go.Proofs.Ytagdfjbbnhdpiaa.Q
