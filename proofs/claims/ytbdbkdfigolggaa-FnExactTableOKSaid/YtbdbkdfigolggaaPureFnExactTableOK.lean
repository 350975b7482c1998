/- The program's TableOK and the reference's answer alike for every list of at most 1048576 numbers (the law's own guard). -/
import Derived.Test.YtbdbkdfigolggaaQ9
import Derived.Test.YtbdbkdfigolggaaTables
set_option linter.unusedSimpArgs false
set_option linter.unusedVariables false
namespace Go.Proofs.Ytbdbkdfigolggaa.Pure
open Go.RowKit Go.Proofs.Ytbdbkdfigolggaa.Q Go.Proofs.Ytbdbkdfigolggaa.Hand Go.Proofs.YtbdbkdfigolggaaW.PrintWords Go.Proofs.YtbdbkdfigolggaaW.PrintLast Go.Proofs.YtbdbkdfigolggaaW.PrintMore
theorem FnExactTableOK (l0 : List Int) (_ : l0.length ≤ maxLen) (_ : ∀ x ∈ l0, (fun x : Int => (Lit.int .i64 x).wf = true) x) : ∃ k, laws_FnExactTableOK.f k l0 = some true := by
  by_cases h : (l0.length : Int) > 1048576
  · exact ⟨0, by unfold laws_FnExactTableOK.f; rw [if_pos h]⟩
  · refine ⟨1048577 + 4097, ?_⟩
    unfold laws_FnExactTableOK.f
    rw [if_neg h]
    simp only [toIntS_eq l0 (1048577 + 4097) (by omega) (by omega), Option.bind_some, spec_table l0 (1048577 + 4097) (by omega), impl_table, bne_self_eq_false, Bool.false_eq_true, if_false, eqIntS_self l0 (1048577 + 4097) (by omega) (by omega), if_true]
end Go.Proofs.Ytbdbkdfigolggaa.Pure
