/- Asking after a cluster of a list of counts: the reference's code, as a plain function; for every list and place. -/
import Derived.Test.YtagdfjbbnhdpiaaQ7
import Derived.Test.YtagdfjbbnhdpiaaTables
import Derived.Test.YtagdfjbbnhdpiaaFirsts
set_option linter.unusedSimpArgs false
set_option linter.unusedVariables false
namespace Go.Proofs.Ytagdfjbbnhdpiaa.Pure
open Go.RowKit Go.Proofs.Ytagdfjbbnhdpiaa.Q Go.Proofs.Ytagdfjbbnhdpiaa.Hand Go.Proofs.YtagdfjbbnhdpiaaW.PrintWords Go.Proofs.YtagdfjbbnhdpiaaW.PrintLast Go.Proofs.YtagdfjbbnhdpiaaW.PrintMore
theorem ask_is (l : List Int) (a : Int) (k : Nat) (hk : 4096 < k) : spec_l08Ask.f k l a = some (if (l.length : Int) > 4096 then 2 else if refsB l = true then (if (decide (0 ≤ a) && decide (a ≤ 23)) = true then 0 else 4) else 1) := by
  unfold spec_l08Ask.f
  by_cases h : (l.length : Int) > 4096
  · rw [if_pos h, if_pos h]
  · rw [if_neg h, if_neg h, spec_refs l k hk]
    simp only [Option.bind_some, InR_eq]
    generalize (decide (0 ≤ a) && decide (a ≤ 23)) = q
    cases refsB l <;> cases q <;> rfl
theorem refs_len {l : List Int} (h : refsB l = true) : l.length = 24 := by
  unfold refsB at h
  simp only [Bool.and_eq_true, decide_eq_true_eq] at h
  exact h.1
theorem refs_in {l : List Int} (h : refsB l = true) {x : Int} (hx : x ∈ l) : 0 ≤ x ∧ x ≤ 15 := by
  unfold refsB refP at h
  simp only [Bool.and_eq_true, decide_eq_true_eq, List.all_eq_true] at h
  exact h.2 x hx
end Go.Proofs.Ytagdfjbbnhdpiaa.Pure
