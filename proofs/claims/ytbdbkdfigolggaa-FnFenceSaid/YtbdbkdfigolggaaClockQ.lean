/- The program's clock functions and the reference's, as plain functions of numbers, give the same: lemmas for the laws on clocks; no condition of their own beyond those that each states. -/
import Derived.Test.YtbdbkdfigolggaaQ4
import Derived.Test.YtbdbkdfigolggaaClock
set_option linter.unusedSimpArgs false
set_option linter.unusedVariables false
namespace Go.Proofs.Ytbdbkdfigolggaa.Pure
open Go.RowKit Go.Proofs.Ytbdbkdfigolggaa.Q Go.Proofs.Ytbdbkdfigolggaa.Hand Go.Proofs.YtbdbkdfigolggaaW.PrintWords Go.Proofs.YtbdbkdfigolggaaW.PrintLast Go.Proofs.YtbdbkdfigolggaaW.PrintMore

theorem In_eq (a b c : Int) : spec_l01In.f a b c = some (decide (b ≤ a) && decide (a ≤ c)) := by
  unfold spec_l01In.f
  by_cases h : b ≤ a
  · rw [if_pos h]; simp [h]
  · rw [if_neg h]; simp [h]
theorem latest_same (x0 x1 x2 g local_ : Int) (hg : 0 ≤ g ∧ g ≤ 500) (hl : 1 ≤ local_ ∧ local_ ≤ 100000) :
    ∃ r, spec_l03Latest.f g local_ = some r ∧ impl_Config_latest.f x0 x1 x2 g local_ = some r ∧ r = ((local_ + 1) * 1000 + 999 - g) / (1000 - g) := by
  have e0 : wrap64 (1000 - g) = 1000 - g := Plain.w64 (by omega) (by omega)
  have e1 : wrap64 (local_ + 1) = local_ + 1 := Plain.w64 (by omega) (by omega)
  have e2 : wrap64 ((local_ + 1) * 1000) = (local_ + 1) * 1000 := Plain.w64 (by omega) (by omega)
  have e3 : wrap64 ((local_ + 1) * 1000 + 999) = (local_ + 1) * 1000 + 999 := Plain.w64 (by omega) (by omega)
  have e4 : wrap64 ((local_ + 1) * 1000 + 999 - g) = (local_ + 1) * 1000 + 999 - g := Plain.w64 (by omega) (by omega)
  have t1 : Int.tdiv ((local_ + 1) * 1000 + 999 - g) (1000 - g) = ((local_ + 1) * 1000 + 999 - g) / (1000 - g) := Int.tdiv_eq_ediv_of_nonneg (by omega)
  have t2 : Int.tdiv ((local_ + 1) * 1000) (1000 - g) = ((local_ + 1) * 1000) / (1000 - g) := Int.tdiv_eq_ediv_of_nonneg (by omega)
  have t3 : Int.tmod ((local_ + 1) * 1000) (1000 - g) = ((local_ + 1) * 1000) % (1000 - g) := Int.tmod_eq_emod_of_nonneg (by omega)
  have c := Plain.ceil_is ((local_ + 1) * 1000) (1000 - g) (by omega)
  have c0 : (local_ + 1) * 1000 + (1000 - g - 1) = (local_ + 1) * 1000 + 999 - g := by omega
  rw [c0] at c
  have b1 : 0 ≤ ((local_ + 1) * 1000) / (1000 - g) := Int.ediv_nonneg (by omega) (by omega)
  have b2 : ((local_ + 1) * 1000) / (1000 - g) ≤ (local_ + 1) * 1000 := Int.ediv_le_self _ (by omega)
  have m1 := Int.emod_nonneg ((local_ + 1) * 1000) (show (1000 - g) ≠ 0 by omega)
  refine ⟨_, ?_, ?_, rfl⟩
  · unfold spec_l03Latest.f
    rw [e0, if_neg (by omega), e1, e2, e3, e4, t1, Plain.w64 (by omega) (by omega)]
  · unfold impl_Config_latest.f
    rw [e0, if_neg (by omega), e1, e2, t2, t3, c, Plain.w64 (x := (local_ + 1) * 1000 / (1000 - g)) (by omega) (by omega)]
    have m : mn ((local_ + 1) * 1000 % (1000 - g)) 1 = (if (local_ + 1) * 1000 % (1000 - g) < 1 then 0 else 1) := by unfold mn; split <;> split <;> omega
    rw [m, Plain.w64]
    · split <;> omega
    · split <;> omega
theorem earliest_same (x0 x1 x2 g local_ : Int) (hg : 0 ≤ g ∧ g ≤ 500) (hl : 1 ≤ local_ ∧ local_ ≤ 100000) :
    ∃ r, spec_l03Earliest.f g local_ = some r ∧ impl_Config_earliest.f x0 x1 x2 g local_ = some r ∧ r = ((local_ - 1) * 1000) / (1000 + g) := by
  have e0 : wrap64 (1000 + g) = 1000 + g := Plain.w64 (by omega) (by omega)
  have e1 : wrap64 (local_ - 1) = local_ - 1 := Plain.w64 (by omega) (by omega)
  have e2 : wrap64 ((local_ - 1) * 1000) = (local_ - 1) * 1000 := Plain.w64 (by omega) (by omega)
  have t2 : Int.tdiv ((local_ - 1) * 1000) (1000 + g) = ((local_ - 1) * 1000) / (1000 + g) := Int.tdiv_eq_ediv_of_nonneg (by omega)
  have t3 : Int.tmod ((local_ - 1) * 1000) (1000 + g) = ((local_ - 1) * 1000) % (1000 + g) := Int.tmod_eq_emod_of_nonneg (by omega)
  have b1 : 0 ≤ ((local_ - 1) * 1000) / (1000 + g) := Int.ediv_nonneg (by omega) (by omega)
  have b2 : ((local_ - 1) * 1000) / (1000 + g) ≤ (local_ - 1) * 1000 := Int.ediv_le_self _ (by omega)
  have m1 := Int.emod_nonneg ((local_ - 1) * 1000) (show (1000 + g) ≠ 0 by omega)
  refine ⟨_, ?_, ?_, rfl⟩
  · unfold spec_l03Earliest.f
    rw [e0, if_neg (by omega), e1, e2, t2, Plain.w64 (by omega) (by omega)]
  · unfold impl_Config_earliest.f impl_floor.f
    rw [e0, if_neg (by omega), e1, e2, t2, t3, if_neg (by omega), Plain.w64 (by omega) (by omega)]
    rfl
theorem right_same (a b c d : Int) : ∃ r, spec_l03Bounds.f a b c d = some r ∧ impl_Config_right.f a b c d = some r ∧ (r = true → 1 ≤ a ∧ a ≤ 10000 ∧ 1 ≤ b ∧ b ≤ 100000 ∧ 0 ≤ c ∧ c ≤ 1000 ∧ 0 ≤ d ∧ d ≤ 500) := by
  have hv : ∀ a b c, impl_within.f a b c = spec_l01In.f a b c := fun _ _ _ => rfl
  unfold spec_l03Bounds.f impl_Config_right.f
  simp only [hv, In_eq, Option.bind_some]
  by_cases h1 : (decide (1 ≤ a) && decide (a ≤ 10000)) = true
  · by_cases h2 : (decide (1 ≤ b) && decide (b ≤ 100000)) = true
    · by_cases h3 : (decide (0 ≤ c) && decide (c ≤ 1000)) = true
      · simp only [h1, h2, h3, if_true]
        refine ⟨_, rfl, rfl, fun h4 => ?_⟩
        simp only [Bool.and_eq_true, decide_eq_true_eq] at h1 h2 h3 h4
        omega
      · simp only [h1, h2, h3, if_true, if_false]
        exact ⟨false, rfl, rfl, fun h => by cases h⟩
    · simp only [h1, h2, if_true, if_false]
      exact ⟨false, rfl, rfl, fun h => by cases h⟩
  · simp only [h1, if_false]
    exact ⟨false, rfl, rfl, fun h => by cases h⟩

theorem first2 (x y : Bool) (c d : Int) : impl_first.f [AnyV.b x, AnyV.i c, AnyV.b y, AnyV.i d] = some (if x = true then c else if y = true then d else 0) := by
  cases x <;> cases y <;> simp [impl_first.f, firstOf, AnyV.asBool, AnyV.asInt]
end Go.Proofs.Ytbdbkdfigolggaa.Pure
