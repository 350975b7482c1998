/- Function values of the program that tell whether a number lies within two bounds: what they tell, for every number. -/
import Derived.Test.YtlclbdfcniiolaaHandC
namespace Go.Proofs.Ytlclbdfcniiolaa.Hand
open Go.RowKit Go.Proofs.YtlclbdfcniiolaaW.PrintWords
set_option linter.unusedVariables false
set_option linter.unusedSimpArgs false

theorem law_fn_isNumber (x : Int) (W : World) : Calls Try.prog 51 #[.int .i64 x] W fun e w' => e = .returned (.bool (decide (0 ≤ x) && decide (x ≤ 2147483647))) ∧ Below W.heap.size W w' := by
  by_cases h : 0 ≤ x
  · have h1 : decide (0 ≤ x) = true := decide_eq_true h
    rw [h1, Bool.true_and]
    go_enter Try.func51, Try.ntmps51
    go_wp2
    go_ret
    exact ⟨rfl, Below.refl _ _⟩
  · have h1 : decide (0 ≤ x) = false := decide_eq_false h
    rw [h1, Bool.false_and]
    go_enter Try.func51, Try.ntmps51
    go_wp2
    go_ret
    exact ⟨rfl, Below.refl _ _⟩
abbrev fn_isNumber : FnV3 := { g := 51, p := fun x => decide (0 ≤ x) && decide (x ≤ 2147483647), enters := enters_of Try.func51 (by kernel_rfl) rfl, law := law_fn_isNumber }

theorem law_fn_isHost (x : Int) (W : World) : Calls Try.prog 52 #[.int .i64 x] W fun e w' => e = .returned (.bool (decide (0 ≤ x) && decide (x ≤ 3))) ∧ Below W.heap.size W w' := by
  by_cases h : 0 ≤ x
  · have h1 : decide (0 ≤ x) = true := decide_eq_true h
    rw [h1, Bool.true_and]
    go_enter Try.func52, Try.ntmps52
    go_wp2
    go_ret
    exact ⟨rfl, Below.refl _ _⟩
  · have h1 : decide (0 ≤ x) = false := decide_eq_false h
    rw [h1, Bool.false_and]
    go_enter Try.func52, Try.ntmps52
    go_wp2
    go_ret
    exact ⟨rfl, Below.refl _ _⟩
abbrev fn_isHost : FnV3 := { g := 52, p := fun x => decide (0 ≤ x) && decide (x ≤ 3), enters := enters_of Try.func52 (by kernel_rfl) rfl, law := law_fn_isHost }

end Go.Proofs.Ytlclbdfcniiolaa.Hand
