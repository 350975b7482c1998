/- Function values of the program that tell whether a number lies within two bounds: what they tell, for every number. -/
import Derived.Test.YtagdfjbbnhdpiaaHandC
namespace Go.Proofs.Ytagdfjbbnhdpiaa.Hand
open Go.RowKit Go.Proofs.YtagdfjbbnhdpiaaW.PrintWords
set_option linter.unusedVariables false
set_option linter.unusedSimpArgs false

theorem law_fn_isNumber (x : Int) (W : World) : Calls Try.prog 79 #[.int .i64 x] W fun e w' => e = .returned (.bool (decide (0 ≤ x) && decide (x ≤ 2147483647))) ∧ Below W.heap.size W w' := by
  by_cases h : 0 ≤ x
  · have h1 : decide (0 ≤ x) = true := decide_eq_true h
    rw [h1, Bool.true_and]
    go_enter Try.func79, Try.ntmps79
    go_wp2
    go_ret
    exact ⟨rfl, Below.refl _ _⟩
  · have h1 : decide (0 ≤ x) = false := decide_eq_false h
    rw [h1, Bool.false_and]
    go_enter Try.func79, Try.ntmps79
    go_wp2
    go_ret
    exact ⟨rfl, Below.refl _ _⟩
abbrev fn_isNumber : FnV3 := { g := 79, p := fun x => decide (0 ≤ x) && decide (x ≤ 2147483647), enters := enters_of Try.func79 (by kernel_rfl) rfl, law := law_fn_isNumber }

theorem law_fn_RefsOK (x : Int) (W : World) : Calls Try.prog 64 #[.int .i64 x] W fun e w' => e = .returned (.bool (decide (0 ≤ x) && decide (x ≤ 15))) ∧ Below W.heap.size W w' := by
  by_cases h : 0 ≤ x
  · have h1 : decide (0 ≤ x) = true := decide_eq_true h
    rw [h1, Bool.true_and]
    go_enter Try.func64, Try.ntmps64
    go_wp2
    go_ret
    exact ⟨rfl, Below.refl _ _⟩
  · have h1 : decide (0 ≤ x) = false := decide_eq_false h
    rw [h1, Bool.false_and]
    go_enter Try.func64, Try.ntmps64
    go_wp2
    go_ret
    exact ⟨rfl, Below.refl _ _⟩
abbrev fn_RefsOK : FnV3 := { g := 64, p := fun x => decide (0 ≤ x) && decide (x ≤ 15), enters := enters_of Try.func64 (by kernel_rfl) rfl, law := law_fn_RefsOK }

theorem law_fn_TableOK (x : Int) (W : World) : Calls Try.prog 80 #[.int .i64 x] W fun e w' => e = .returned (.bool (decide (0 ≤ x) && decide (x ≤ 25))) ∧ Below W.heap.size W w' := by
  by_cases h : 0 ≤ x
  · have h1 : decide (0 ≤ x) = true := decide_eq_true h
    rw [h1, Bool.true_and]
    go_enter Try.func80, Try.ntmps80
    go_wp2
    go_ret
    exact ⟨rfl, Below.refl _ _⟩
  · have h1 : decide (0 ≤ x) = false := decide_eq_false h
    rw [h1, Bool.false_and]
    go_enter Try.func80, Try.ntmps80
    go_wp2
    go_ret
    exact ⟨rfl, Below.refl _ _⟩
abbrev fn_TableOK : FnV3 := { g := 80, p := fun x => decide (0 ≤ x) && decide (x ≤ 25), enters := enters_of Try.func80 (by kernel_rfl) rfl, law := law_fn_TableOK }

end Go.Proofs.Ytagdfjbbnhdpiaa.Hand
