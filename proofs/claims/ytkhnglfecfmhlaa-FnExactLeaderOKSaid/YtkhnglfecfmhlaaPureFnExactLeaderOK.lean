/- The program's LeaderOK and the reference's answer alike for every leader. No condition. -/
import Derived.Test.YtkhnglfecfmhlaaPFnExactLeaderOKx4
set_option linter.unusedSimpArgs false
set_option linter.unusedVariables false
namespace Go.Proofs.Ytkhnglfecfmhlaa.Pure
open Go.RowKit Go.Proofs.Ytkhnglfecfmhlaa.PFnExactLeaderOK Go.Proofs.YtkhnglfecfmhlaaW.PrintWords Go.Proofs.YtkhnglfecfmhlaaW.PrintLast

theorem In_eq (a b c : Int) : spec_l01In.f a b c = some (decide (b ≤ a) && decide (a ≤ c)) := by
  unfold spec_l01In.f
  by_cases h : b ≤ a
  · rw [if_pos h]; simp [h]
  · rw [if_neg h]; simp [h]
theorem leader_same (a b c : Int) : ∃ r, spec_LeaderOK.f a b c = some r ∧ impl_LeaderOK.f a b c = some r := by
  have hv : ∀ a b c, impl_within.f a b c = spec_l01In.f a b c := fun _ _ _ => rfl
  unfold impl_LeaderOK.f spec_LeaderOK.f impl_isVer.f impl_isHost.f impl_isGen.f impl_nobody.f spec_l04Host.f
  simp only [hv, In_eq, Option.bind_some, beq_self_eq_true, Bool.true_and]
  by_cases h1 : (decide (0 ≤ a) && decide (a ≤ 1000000)) = true
  · simp only [h1, if_true]
    by_cases h2 : b = -1
    · subst h2
      by_cases h3 : c = 0
      · subst h3
        exact ⟨true, by simp, by simp⟩
      · refine ⟨false, ?_, ?_⟩ <;> simp [h3]
    · have e2 : (b == -1) = false := by simpa using h2
      simp only [if_neg h2, e2, Bool.false_and, Bool.false_eq_true, if_false]
      by_cases h4 : a > 0
      · simp only [if_pos h4, decide_true]
        by_cases h5 : (decide (0 ≤ b) && decide (b ≤ 3)) = true
        · simp only [h5, if_true]
          by_cases h6 : (decide (1 ≤ c) && decide (c ≤ 1000000)) = true
          · simp only [h6, if_true]
            exact ⟨true, rfl, by simp [h4]⟩
          · simp only [h6, if_false]
            exact ⟨false, by simp, by simp⟩
        · simp only [h5, if_false]
          exact ⟨false, by simp, by simp⟩
      · simp only [if_neg h4]
        refine ⟨false, rfl, ?_⟩
        repeat' split
        all_goals simp [h4]
  · simp only [h1, if_false]
    exact ⟨false, by simp, by simp⟩
theorem FnExactLeaderOK (a0_0 a0_1 a0_2 : Int) (_ : (Lit.int .i64 a0_0).wf = true) (_ : (Lit.int .i64 a0_1).wf = true) (_ : (Lit.int .i64 a0_2).wf = true) : laws_FnExactLeaderOK.f a0_0 a0_1 a0_2 = some true := by
  obtain ⟨r, h1, h2⟩ := leader_same a0_0 a0_1 a0_2
  unfold laws_FnExactLeaderOK.f laws_toLeader.f
  simp only [Option.bind_some, h1, h2, bne_self_eq_false, Bool.false_eq_true, if_false]

end Go.Proofs.Ytkhnglfecfmhlaa.Pure
