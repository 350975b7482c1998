/- What taking a field of a struct's value gives; no condition. -/
import Derived.Test.YtpgiklbaoikogaaProg
import Derived.WalkKit
import Derived.KernelRfl
namespace Go.Proofs.Ytpgiklbaoikogaa.Hand
open Go.RowKit
@[go_sem] theorem fld84_0 (a0 a1 a2 : Value) (w : World) : (Instr.field 84 (.agg #[a0, a1, a2]) 0).run Try.prog w = .ok a0 w := by kernel_rfl
@[go_sem] theorem fld84_1 (a0 a1 a2 : Value) (w : World) : (Instr.field 84 (.agg #[a0, a1, a2]) 1).run Try.prog w = .ok a1 w := by kernel_rfl
@[go_sem] theorem fld84_2 (a0 a1 a2 : Value) (w : World) : (Instr.field 84 (.agg #[a0, a1, a2]) 2).run Try.prog w = .ok a2 w := by kernel_rfl
@[go_sem] theorem fld25_0 (a0 a1 : Value) (w : World) : (Instr.field 25 (.agg #[a0, a1]) 0).run Try.prog w = .ok a0 w := by kernel_rfl
@[go_sem] theorem fld25_1 (a0 a1 : Value) (w : World) : (Instr.field 25 (.agg #[a0, a1]) 1).run Try.prog w = .ok a1 w := by kernel_rfl
end Go.Proofs.Ytpgiklbaoikogaa.Hand
