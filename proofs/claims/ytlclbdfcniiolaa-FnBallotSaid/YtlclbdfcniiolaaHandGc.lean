/- The program's BlockOK as a function value: what it tells of a block, for every block. -/
import Derived.Test.YtlclbdfcniiolaaHandGv
import Derived.Test.YtlclbdfcniiolaaB1
namespace Go.Proofs.Ytlclbdfcniiolaa.Hand
open Go.RowKit Go.Proofs.YtlclbdfcniiolaaW.PrintWords
set_option linter.unusedVariables false
def inB (a b c : Int) : Bool := decide (b ≤ a) && decide (a ≤ c)
/-- Whether a block is right. -/
def blockB (a b c d : Int) : Bool := inB a 0 1000000 && (inB b 0 1000000 && (inB c 0 b && (inB d 0 2147483647 && (decide (c > 0) || d == 0))))
theorem within_eq (a b c : Int) : B.impl_within.f a b c = some (inB a b c) := by
  unfold B.impl_within.f inB
  by_cases h : b ≤ a
  · rw [if_pos h]; simp [h]
  · rw [if_neg h]; simp [h]
theorem blockOK_eq (a b c d : Int) : B.impl_BlockOK.f a b c d = some (blockB a b c d) := by
  unfold B.impl_BlockOK.f B.impl_isVer.f B.impl_isNumber.f blockB
  simp only [within_eq, Option.bind_some]
  cases inB a 0 1000000 <;> cases inB b 0 1000000 <;> cases inB c 0 b <;> cases inB d 0 2147483647 <;> simp
  by_cases h : 0 < c
  · rw [if_pos h]; simp [h]
  · rw [if_neg h]; simp [h]
theorem law_BlockOK (a b c d : Int) (W : World) : Calls Try.prog 33 #[.agg #[.int .i64 a, .int .i64 b, .int .i64 c, .int .i64 d]] W fun e w' => e = .returned (.bool (blockB a b c d)) ∧ Below W.heap.size W w' :=
  B.impl_BlockOK.calls a b c d (blockB a b c d) W (blockOK_eq a b c d)
abbrev fn_BlockOK : FnV53 := { g := 33, p := blockB, enters := enters_of Try.func33 (by kernel_rfl) rfl, law := law_BlockOK }
end Go.Proofs.Ytlclbdfcniiolaa.Hand
