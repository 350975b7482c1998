-- PRINTED BY print.sh 35421559b90ae4d0a3588c463048766b98c2df88dd9212a6774a882060cdf62d: not written by this session
import Derived.Test.YtbdbkdfigolggaaProg
import Derived.Below
import Derived.Deep.Draws
import Derived.Deep.AppendLies
import Derived.Maps.AppendAt
import Derived.OwnWalk
import Derived.Laws.BytesArg
import Derived.Laws.MakeOwn
import Derived.Laws.OwnMore
import Derived.Deep.OwnRows
import Derived.Tactics
import Derived.Lib.ConvBytes
import Derived.Laws.Slices
import Derived.WalkKit
import Derived.KernelRfl
import Derived.RowKit3
import Derived.Deep.LoopGhost
import Derived.Deep.QuietTactic
import Derived.BigQuiet
import Derived.WideLaws
import Derived.Deep.DeepCutAuto
import Derived.Deep.CutBlock
import Derived.Deep.RegionHeld3
import Derived.Laws.Rows
import Derived.Lib.AppendStr
import Derived.ArgAppend
import Derived.Laws.IdiomCopy
import Derived.OrdersHeld
import Derived.Laws.BitsLemmas
import Derived.RowKit
import Derived.Test.YtbdbkdfigolggaaWWords
import Derived.Test.YtbdbkdfigolggaaWLast
import Derived.Test.YtbdbkdfigolggaaWTab
import Derived.Test.YtbdbkdfigolggaaWFour
import Derived.Test.YtbdbkdfigolggaaWQPut
import Derived.Test.YtbdbkdfigolggaaWApart
import Derived.Test.YtbdbkdfigolggaaWArr
import Derived.Test.YtbdbkdfigolggaaWZeros
import Derived.Test.YtbdbkdfigolggaaWFoot
import Derived.Test.YtbdbkdfigolggaaWKept
import Derived.Test.YtbdbkdfigolggaaWShare
import Derived.Test.YtbdbkdfigolggaaWN
import Derived.Test.YtbdbkdfigolggaaWFootNe
import Derived.Test.YtbdbkdfigolggaaWAt
import Derived.Test.YtbdbkdfigolggaaWEqStruct
import Derived.Test.YtbdbkdfigolggaaWRepsOne
import Derived.Test.YtbdbkdfigolggaaWInv
import Derived.Test.YtbdbkdfigolggaaWInvWords
import Derived.Test.YtbdbkdfigolggaaWGuard
import Derived.Test.YtbdbkdfigolggaaWNEv
import Derived.Test.YtbdbkdfigolggaaWMore
namespace Go.Proofs.Ytbdbkdfigolggaa.PFnExactPxStart
open Go.RowKit Go.Proofs.YtbdbkdfigolggaaW.PrintWords Go.Proofs.YtbdbkdfigolggaaW.PrintLast Go.Proofs.YtbdbkdfigolggaaW.PrintMore
attribute [local go_sem] max2_int min2_int max_two min_two max_three min_three max_four min_four   -- for this text's walks alone
set_option linter.unusedVariables false
set_option linter.unusedSimpArgs false



def errW : Option Int → Value
  | none => .nilIface
  | some c => .iface 0 (.int .i64 c)
theorem errW_none : errW none = .nilIface := rfl
theorem errW_some (c : Int) : errW (some c) = .iface 0 (.int .i64 c) := rfl

-- the values' own types

end Go.Proofs.Ytbdbkdfigolggaa.PFnExactPxStart
