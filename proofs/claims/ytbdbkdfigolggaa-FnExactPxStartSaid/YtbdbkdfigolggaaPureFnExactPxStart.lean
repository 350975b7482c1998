/- The program's PxStart and the reference's give the same for all arguments. No condition. -/
import Derived.Test.YtbdbkdfigolggaaPFnExactPxStartx2
set_option linter.unusedSimpArgs false
set_option linter.unusedVariables false
namespace Go.Proofs.Ytbdbkdfigolggaa.Pure
open Go.RowKit Go.Proofs.Ytbdbkdfigolggaa.PFnExactPxStart Go.Proofs.YtbdbkdfigolggaaW.PrintWords Go.Proofs.YtbdbkdfigolggaaW.PrintLast

theorem In_eq (a b c : Int) : spec_l01In.f a b c = some (decide (b ≤ a) && decide (a ≤ c)) := by
  unfold spec_l01In.f
  by_cases h : b ≤ a
  · rw [if_pos h]; simp [h]
  · rw [if_neg h]; simp [h]
theorem px_same (a b c d e f g h : Int) (k : Nat) : ∃ r, spec_PxOK.f (k + 1) a b c d e f g h = some r ∧ impl_PxOK.f a b c d e f g h = some r := by
  have hv : ∀ a b c, impl_within.f a b c = spec_l01In.f a b c := fun _ _ _ => rfl
  unfold spec_PxOK.f impl_PxOK.f impl_isHost.f impl_isVer.f impl_isNumber.f spec_l04Host.f
  simp only [hv, In_eq, Option.bind_some, spec_PxOK.j0, spec_l02Int.f]
  generalize (decide (0 ≤ a) && decide (a ≤ 3)) = b0
  generalize (decide (0 ≤ b) && decide (b ≤ 1000000)) = b1
  generalize (decide (1 ≤ c) && decide (c ≤ 6)) = b2
  generalize (decide (1 ≤ d) && decide (d ≤ 1000000)) = b3
  generalize (decide (0 ≤ e) && decide (e ≤ 2147483647)) = b4
  generalize (decide (0 ≤ f) && decide (f ≤ 4)) = b5
  generalize (decide (0 ≤ g) && decide (g ≤ 2147483647)) = b6
  generalize (decide (0 ≤ h) && decide (h ≤ 1000000)) = b7
  cases b0 with
  | false => exact ⟨false, by simp, by simp⟩
  | true =>
    cases b1 with
    | false => exact ⟨false, by simp, by simp⟩
    | true =>
      cases b2 with
      | false => exact ⟨false, by simp, by simp⟩
      | true =>
        cases b3 with
        | false => exact ⟨false, by simp, by simp⟩
        | true =>
          by_cases he : Int.tmod d 4 = a
          · have e2 : (Int.tmod d 4 != a) = false := by simpa using he
            simp only [e2, if_pos he, Bool.false_eq_true, if_false, if_true]
            cases b4 <;> cases b5 <;> cases b6 <;> exact ⟨_, rfl, rfl⟩
          · have e2 : (Int.tmod d 4 != a) = true := by simpa using he
            simp only [e2, if_neg he, if_true]
            exact ⟨false, rfl, rfl⟩
theorem FnExactPxStart : laws_FnExactPxStart.Pure := by
  intro a b c d _ _ _ _
  refine ⟨1, ?_⟩
  obtain ⟨r, h1, h2⟩ := px_same a b 1 c d 0 0 0 0
  unfold laws_FnExactPxStart.f spec_PxStart.f impl_PxStart.f laws_eqPx.f
  simp only [h1, h2, Option.bind_some]
  cases r <;> simp

end Go.Proofs.Ytbdbkdfigolggaa.Pure
