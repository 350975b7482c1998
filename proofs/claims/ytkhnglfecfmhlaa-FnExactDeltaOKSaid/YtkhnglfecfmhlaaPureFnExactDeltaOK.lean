/- The program's DeltaOK and the reference's answer alike for every generation. No condition. -/
import Derived.Test.YtkhnglfecfmhlaaPFnExactDeltaOKx1
set_option linter.unusedSimpArgs false
set_option linter.unusedVariables false
namespace Go.Proofs.Ytkhnglfecfmhlaa.Pure
open Go.RowKit Go.Proofs.Ytkhnglfecfmhlaa.PFnExactDeltaOK Go.Proofs.YtkhnglfecfmhlaaW.PrintWords Go.Proofs.YtkhnglfecfmhlaaW.PrintLast

theorem In_eq (a b c : Int) : spec_l01In.f a b c = some (decide (b ≤ a) && decide (a ≤ c)) := by
  unfold spec_l01In.f
  by_cases h : b ≤ a
  · rw [if_pos h]; simp [h]
  · rw [if_neg h]; simp [h]
theorem delta_some (a b c : Int) : ∃ r, spec_DeltaOK.f a b c = some r := by
  unfold spec_DeltaOK.f spec_l04Host.f
  simp only [In_eq, Option.bind_some]
  repeat' split
  all_goals exact ⟨_, rfl⟩
theorem FnExactDeltaOK (a0_0 a0_1 a0_2 : Int) (_ : (Lit.int .i64 a0_0).wf = true) (_ : (Lit.int .i64 a0_1).wf = true) (_ : (Lit.int .i64 a0_2).wf = true) : laws_FnExactDeltaOK.f a0_0 a0_1 a0_2 = some true := by
  obtain ⟨r, h1⟩ := delta_some a0_0 a0_1 a0_2
  have hv : ∀ a b c, impl_within.f a b c = spec_l01In.f a b c := fun _ _ _ => rfl
  have h2 : impl_DeltaOK.f a0_0 a0_1 a0_2 = some r := by
    rw [← h1]
    unfold impl_DeltaOK.f spec_DeltaOK.f impl_isHost.f impl_isGen.f impl_isStamp.f spec_l04Host.f
    simp only [hv, In_eq, Option.bind_some]
  unfold laws_FnExactDeltaOK.f laws_toDelta.f
  simp only [Option.bind_some, h1, h2, bne_self_eq_false, Bool.false_eq_true, if_false]

end Go.Proofs.Ytkhnglfecfmhlaa.Pure
