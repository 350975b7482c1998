/- The program's EncodeTable and the reference's give the same for every list of at most 1048576 numbers (the law's own guard). -/
import Derived.Test.YtagdfjbbnhdpiaaQ17
import Derived.Test.YtagdfjbbnhdpiaaTables
import Derived.Test.YtagdfjbbnhdpiaaSeal
import Derived.Test.YtagdfjbbnhdpiaaFirsts
set_option linter.unusedSimpArgs false
set_option linter.unusedVariables false
namespace Go.Proofs.Ytagdfjbbnhdpiaa.Pure
open Go.RowKit Go.Proofs.Ytagdfjbbnhdpiaa.Q Go.Proofs.Ytagdfjbbnhdpiaa.Hand Go.Proofs.YtagdfjbbnhdpiaaW.PrintWords Go.Proofs.YtagdfjbbnhdpiaaW.PrintLast Go.Proofs.YtagdfjbbnhdpiaaW.PrintMore
theorem encode_same (l : List Int) (hl : l.length ≤ 1048576) (k : Nat) (hk : 1500000 < k) : ∃ r, spec_EncodeTable.f k l = some r ∧ impl_EncodeTable.f k l = some r := by
  unfold spec_EncodeTable.f impl_EncodeTable.f impl_isLong_int.f spec_l09Encode.f
  simp only [spec_table l k (by omega), impl_table, Option.bind_some, firsts2]
  by_cases h : (l.length : Int) > 4096
  · exact ⟨(⟨#[]⟩, 2), by rw [if_pos h], by simp [h]⟩
  · cases hb : tableB l with
    | false => exact ⟨(⟨#[]⟩, 1), by simp [h], by simp [h]⟩
    | true =>
      obtain ⟨r, e1, e2⟩ := seal_same 3 l k (by omega) (by omega)
      exact ⟨(r, 0), by simp [h, e1], by simp [h, e2]⟩
theorem FnExactEncodeTable (l0 : List Int) (_ : l0.length ≤ maxLen) (_ : ∀ x ∈ l0, (fun x : Int => (Lit.int .i64 x).wf = true) x) : ∃ k, laws_FnExactEncodeTable.f k l0 = some true := by
  by_cases h : (l0.length : Int) > 1048576
  · exact ⟨0, by unfold laws_FnExactEncodeTable.f; rw [if_pos h]⟩
  · refine ⟨2000000 + 1, ?_⟩
    obtain ⟨r, h1, h2⟩ := encode_same l0 (by omega) (2000000 + 1) (by omega)
    unfold laws_FnExactEncodeTable.f
    rw [if_neg h]
    simp only [toIntS_eq l0 (2000000 + 1) (by omega) (by omega), Option.bind_some, h1, h2, if_true, laws_FnExactEncodeTable.j0, bne_self_eq_false, Bool.false_eq_true, if_false, toIntS_eq l0 (2000000) (by omega) (by omega), eqIntS_self l0 (2000000) (by omega) (by omega)]
end Go.Proofs.Ytagdfjbbnhdpiaa.Pure
