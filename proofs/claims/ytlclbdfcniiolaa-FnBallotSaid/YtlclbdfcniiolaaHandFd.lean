/- What taking a field of a struct's value gives; no condition. -/
import Derived.Test.YtlclbdfcniiolaaProg
import Derived.WalkKit
import Derived.KernelRfl
namespace Go.Proofs.Ytlclbdfcniiolaa.Hand
open Go.RowKit
@[go_sem] theorem fld53_0 (a0 a1 a2 a3 : Value) (w : World) : (Instr.field 53 (.agg #[a0, a1, a2, a3]) 0).run Try.prog w = .ok a0 w := by kernel_rfl
@[go_sem] theorem fld53_1 (a0 a1 a2 a3 : Value) (w : World) : (Instr.field 53 (.agg #[a0, a1, a2, a3]) 1).run Try.prog w = .ok a1 w := by kernel_rfl
@[go_sem] theorem fld53_2 (a0 a1 a2 a3 : Value) (w : World) : (Instr.field 53 (.agg #[a0, a1, a2, a3]) 2).run Try.prog w = .ok a2 w := by kernel_rfl
@[go_sem] theorem fld53_3 (a0 a1 a2 a3 : Value) (w : World) : (Instr.field 53 (.agg #[a0, a1, a2, a3]) 3).run Try.prog w = .ok a3 w := by kernel_rfl
@[go_sem] theorem fld26_0 (a0 a1 a2 a3 a4 a5 a6 a7 : Value) (w : World) : (Instr.field 26 (.agg #[a0, a1, a2, a3, a4, a5, a6, a7]) 0).run Try.prog w = .ok a0 w := by kernel_rfl
@[go_sem] theorem fld26_1 (a0 a1 a2 a3 a4 a5 a6 a7 : Value) (w : World) : (Instr.field 26 (.agg #[a0, a1, a2, a3, a4, a5, a6, a7]) 1).run Try.prog w = .ok a1 w := by kernel_rfl
@[go_sem] theorem fld26_2 (a0 a1 a2 a3 a4 a5 a6 a7 : Value) (w : World) : (Instr.field 26 (.agg #[a0, a1, a2, a3, a4, a5, a6, a7]) 2).run Try.prog w = .ok a2 w := by kernel_rfl
@[go_sem] theorem fld26_3 (a0 a1 a2 a3 a4 a5 a6 a7 : Value) (w : World) : (Instr.field 26 (.agg #[a0, a1, a2, a3, a4, a5, a6, a7]) 3).run Try.prog w = .ok a3 w := by kernel_rfl
@[go_sem] theorem fld26_4 (a0 a1 a2 a3 a4 a5 a6 a7 : Value) (w : World) : (Instr.field 26 (.agg #[a0, a1, a2, a3, a4, a5, a6, a7]) 4).run Try.prog w = .ok a4 w := by kernel_rfl
@[go_sem] theorem fld26_5 (a0 a1 a2 a3 a4 a5 a6 a7 : Value) (w : World) : (Instr.field 26 (.agg #[a0, a1, a2, a3, a4, a5, a6, a7]) 5).run Try.prog w = .ok a5 w := by kernel_rfl
@[go_sem] theorem fld26_6 (a0 a1 a2 a3 a4 a5 a6 a7 : Value) (w : World) : (Instr.field 26 (.agg #[a0, a1, a2, a3, a4, a5, a6, a7]) 6).run Try.prog w = .ok a6 w := by kernel_rfl
@[go_sem] theorem fld26_7 (a0 a1 a2 a3 a4 a5 a6 a7 : Value) (w : World) : (Instr.field 26 (.agg #[a0, a1, a2, a3, a4, a5, a6, a7]) 7).run Try.prog w = .ok a7 w := by kernel_rfl
end Go.Proofs.Ytlclbdfcniiolaa.Hand
