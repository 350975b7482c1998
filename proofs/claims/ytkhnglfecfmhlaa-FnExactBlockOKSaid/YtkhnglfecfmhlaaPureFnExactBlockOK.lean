/- The program's BlockOK and the reference's answer alike for every block. No condition. -/
import Derived.Test.YtkhnglfecfmhlaaPFnExactBlockOKx1
set_option linter.unusedSimpArgs false
set_option linter.unusedVariables false
namespace Go.Proofs.Ytkhnglfecfmhlaa.Pure
open Go.RowKit Go.Proofs.Ytkhnglfecfmhlaa.PFnExactBlockOK Go.Proofs.YtkhnglfecfmhlaaW.PrintWords Go.Proofs.YtkhnglfecfmhlaaW.PrintLast

theorem In_eq (a b c : Int) : spec_l01In.f a b c = some (decide (b ≤ a) && decide (a ≤ c)) := by
  unfold spec_l01In.f
  by_cases h : b ≤ a
  · rw [if_pos h]; simp [h]
  · rw [if_neg h]; simp [h]
theorem block_some (a b c d : Int) : ∃ r, spec_BlockOK.f a b c d = some r := by
  unfold spec_BlockOK.f
  simp only [In_eq, Option.bind_some]
  repeat' split
  all_goals exact ⟨_, rfl⟩
theorem FnExactBlockOK (a0_0 a0_1 a0_2 a0_3 : Int) (_ : (Lit.int .i64 a0_0).wf = true) (_ : (Lit.int .i64 a0_1).wf = true) (_ : (Lit.int .i64 a0_2).wf = true) (_ : (Lit.int .i64 a0_3).wf = true) : laws_FnExactBlockOK.f a0_0 a0_1 a0_2 a0_3 = some true := by
  obtain ⟨r, h1⟩ := block_some a0_0 a0_1 a0_2 a0_3
  have hv : ∀ a b c, impl_within.f a b c = spec_l01In.f a b c := fun _ _ _ => rfl
  have h2 : impl_BlockOK.f a0_0 a0_1 a0_2 a0_3 = some r := by
    rw [← h1]
    unfold impl_BlockOK.f spec_BlockOK.f impl_isVer.f impl_isNumber.f
    simp only [hv, In_eq, Option.bind_some]
  unfold laws_FnExactBlockOK.f laws_toBlock.f
  simp only [Option.bind_some, h1, h2, bne_self_eq_false, Bool.false_eq_true, if_false]

end Go.Proofs.Ytkhnglfecfmhlaa.Pure
