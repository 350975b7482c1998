/- Function values of the program that tell whether a number lies within two bounds: what they tell, for every number. -/
import Derived.Test.YtbdbkdfigolggaaHandC
namespace Go.Proofs.Ytbdbkdfigolggaa.Hand
open Go.RowKit Go.Proofs.YtbdbkdfigolggaaW.PrintWords
set_option linter.unusedVariables false
set_option linter.unusedSimpArgs false

theorem law_fn_isNumber (x : Int) (W : World) : Calls Try.prog 50 #[.int .i64 x] W fun e w' => e = .returned (.bool (decide (0 ≤ x) && decide (x ≤ 2147483647))) ∧ Below W.heap.size W w' := by
  by_cases h : 0 ≤ x
  · have h1 : decide (0 ≤ x) = true := decide_eq_true h
    rw [h1, Bool.true_and]
    go_enter Try.func50, Try.ntmps50
    go_wp2
    go_ret
    exact ⟨rfl, Below.refl _ _⟩
  · have h1 : decide (0 ≤ x) = false := decide_eq_false h
    rw [h1, Bool.false_and]
    go_enter Try.func50, Try.ntmps50
    go_wp2
    go_ret
    exact ⟨rfl, Below.refl _ _⟩
abbrev fn_isNumber : FnV3 := { g := 50, p := fun x => decide (0 ≤ x) && decide (x ≤ 2147483647), enters := enters_of Try.func50 (by kernel_rfl) rfl, law := law_fn_isNumber }

theorem law_fn_isHost (x : Int) (W : World) : Calls Try.prog 47 #[.int .i64 x] W fun e w' => e = .returned (.bool (decide (0 ≤ x) && decide (x ≤ 3))) ∧ Below W.heap.size W w' := by
  by_cases h : 0 ≤ x
  · have h1 : decide (0 ≤ x) = true := decide_eq_true h
    rw [h1, Bool.true_and]
    go_enter Try.func47, Try.ntmps47
    go_wp2
    go_ret
    exact ⟨rfl, Below.refl _ _⟩
  · have h1 : decide (0 ≤ x) = false := decide_eq_false h
    rw [h1, Bool.false_and]
    go_enter Try.func47, Try.ntmps47
    go_wp2
    go_ret
    exact ⟨rfl, Below.refl _ _⟩
abbrev fn_isHost : FnV3 := { g := 47, p := fun x => decide (0 ≤ x) && decide (x ≤ 3), enters := enters_of Try.func47 (by kernel_rfl) rfl, law := law_fn_isHost }

theorem law_fn_RefsOK (x : Int) (W : World) : Calls Try.prog 64 #[.int .i64 x] W fun e w' => e = .returned (.bool (decide (0 ≤ x) && decide (x ≤ 15))) ∧ Below W.heap.size W w' := by
  by_cases h : 0 ≤ x
  · have h1 : decide (0 ≤ x) = true := decide_eq_true h
    rw [h1, Bool.true_and]
    go_enter Try.func64, Try.ntmps64
    go_wp2
    go_ret
    exact ⟨rfl, Below.refl _ _⟩
  · have h1 : decide (0 ≤ x) = false := decide_eq_false h
    rw [h1, Bool.false_and]
    go_enter Try.func64, Try.ntmps64
    go_wp2
    go_ret
    exact ⟨rfl, Below.refl _ _⟩
abbrev fn_RefsOK : FnV3 := { g := 64, p := fun x => decide (0 ≤ x) && decide (x ≤ 15), enters := enters_of Try.func64 (by kernel_rfl) rfl, law := law_fn_RefsOK }

theorem law_fn_TableOK (x : Int) (W : World) : Calls Try.prog 65 #[.int .i64 x] W fun e w' => e = .returned (.bool (decide (0 ≤ x) && decide (x ≤ 25))) ∧ Below W.heap.size W w' := by
  by_cases h : 0 ≤ x
  · have h1 : decide (0 ≤ x) = true := decide_eq_true h
    rw [h1, Bool.true_and]
    go_enter Try.func65, Try.ntmps65
    go_wp2
    go_ret
    exact ⟨rfl, Below.refl _ _⟩
  · have h1 : decide (0 ≤ x) = false := decide_eq_false h
    rw [h1, Bool.false_and]
    go_enter Try.func65, Try.ntmps65
    go_wp2
    go_ret
    exact ⟨rfl, Below.refl _ _⟩
abbrev fn_TableOK : FnV3 := { g := 65, p := fun x => decide (0 ≤ x) && decide (x ≤ 25), enters := enters_of Try.func65 (by kernel_rfl) rfl, law := law_fn_TableOK }

end Go.Proofs.Ytbdbkdfigolggaa.Hand
