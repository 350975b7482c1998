/- What the program's 'first' tells of two and of three conditions; no condition. -/
import Derived.Test.YtagdfjbbnhdpiaaHandA
set_option linter.unusedSimpArgs false
set_option linter.unusedVariables false
namespace Go.Proofs.Ytagdfjbbnhdpiaa.Pure
open Go.RowKit Go.Proofs.Ytagdfjbbnhdpiaa.Hand Go.Proofs.YtagdfjbbnhdpiaaW.PrintWords Go.Proofs.YtagdfjbbnhdpiaaW.PrintLast Go.Proofs.YtagdfjbbnhdpiaaW.PrintMore
theorem firsts2 (x y : Bool) (c d : Int) : impl_first.f [AnyV.b x, AnyV.i c, AnyV.b y, AnyV.i d] = some (if x = true then c else if y = true then d else 0) := by
  cases x <;> cases y <;> simp [impl_first.f, firstOf, AnyV.asBool, AnyV.asInt]
theorem firsts3 (x y z : Bool) (c d e : Int) : impl_first.f [AnyV.b x, AnyV.i c, AnyV.b y, AnyV.i d, AnyV.b z, AnyV.i e] = some (if x = true then c else if y = true then d else if z = true then e else 0) := by
  cases x <;> cases y <;> cases z <;> simp [impl_first.f, firstOf, AnyV.asBool, AnyV.asInt]
end Go.Proofs.Ytagdfjbbnhdpiaa.Pure
