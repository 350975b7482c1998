/- The program's LocalOf and the reference's give the same for every clock and time. No condition. -/
import Derived.Test.YtkhnglfecfmhlaaPFnExactLocalOfx1
set_option linter.unusedSimpArgs false
set_option linter.unusedVariables false
namespace Go.Proofs.Ytkhnglfecfmhlaa.Pure
open Go.RowKit Go.Proofs.Ytkhnglfecfmhlaa.PFnExactLocalOf Go.Proofs.YtkhnglfecfmhlaaW.PrintWords Go.Proofs.YtkhnglfecfmhlaaW.PrintLast

theorem In_eq (a b c : Int) : spec_l01In.f a b c = some (decide (b ≤ a) && decide (a ≤ c)) := by
  unfold spec_l01In.f
  by_cases h : b ≤ a
  · rw [if_pos h]; simp [h]
  · rw [if_neg h]; simp [h]
theorem local_same (a b c : Int) : ∃ r, spec_LocalOf.f a b c = some r ∧ impl_LocalOf.f a b c = some r := by
  have hv : ∀ a b c, impl_within.f a b c = spec_l01In.f a b c := fun _ _ _ => rfl
  unfold impl_LocalOf.f spec_LocalOf.f spec_l03Local.f
  simp only [hv, In_eq, Option.bind_some]
  by_cases h1 : (decide (0 ≤ a) && decide (a ≤ 1000000)) = true
  · by_cases h2 : (decide (-500 ≤ b) && decide (b ≤ 500)) = true
    · by_cases h3 : (decide (0 ≤ c) && decide (c ≤ 1000000)) = true
      · simp only [h1, h2, h3, if_true]; exact ⟨_, rfl, rfl⟩
      · simp only [h1, h2, h3, if_true, if_false]; exact ⟨_, rfl, rfl⟩
    · by_cases h3 : (decide (0 ≤ c) && decide (c ≤ 1000000)) = true
      · simp only [h1, h2, h3, if_true, if_false]; exact ⟨_, rfl, rfl⟩
      · simp only [h1, h2, h3, if_true, if_false]; exact ⟨_, rfl, rfl⟩
  · simp only [h1, if_false]; exact ⟨_, rfl, rfl⟩
theorem FnExactLocalOf (a0_0 a0_1 a1 : Int) (_ : (Lit.int .i64 a0_0).wf = true) (_ : (Lit.int .i64 a0_1).wf = true) (_ : (Lit.int .i64 a1).wf = true) : laws_FnExactLocalOf.f a0_0 a0_1 a1 = some true := by
  obtain ⟨r, h1, h2⟩ := local_same a0_0 a0_1 a1
  unfold laws_FnExactLocalOf.f laws_toClock.f
  simp only [Option.bind_some, h1, h2, if_true]

end Go.Proofs.Ytkhnglfecfmhlaa.Pure
