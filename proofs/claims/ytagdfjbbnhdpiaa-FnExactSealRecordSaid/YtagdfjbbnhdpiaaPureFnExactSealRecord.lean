/- The program's SealRecord and the reference's give the same for every kind and every list of at most 1048576 numbers (the law's own guard). -/
import Derived.Test.YtagdfjbbnhdpiaaQ24
import Derived.Test.YtagdfjbbnhdpiaaNums
import Derived.Test.YtagdfjbbnhdpiaaSeal
import Derived.Test.YtagdfjbbnhdpiaaFirsts
set_option linter.unusedSimpArgs false
set_option linter.unusedVariables false
namespace Go.Proofs.Ytagdfjbbnhdpiaa.Pure
open Go.RowKit Go.Proofs.Ytagdfjbbnhdpiaa.Q Go.Proofs.Ytagdfjbbnhdpiaa.Hand Go.Proofs.YtagdfjbbnhdpiaaW.PrintWords Go.Proofs.YtagdfjbbnhdpiaaW.PrintLast Go.Proofs.YtagdfjbbnhdpiaaW.PrintMore
theorem record_same (a : Int) (l : List Int) (hl : l.length ≤ 1048576) (k : Nat) (hk : 1500000 < k) : ∃ r, spec_SealRecord.f k a l = some r ∧ impl_SealRecord.f k a l = some r := by
  have hv : ∀ a b c, impl_within.f a b c = spec_l01In.f a b c := fun _ _ _ => rfl
  obtain ⟨k, rfl⟩ : ∃ m, k = m + 1 := ⟨k - 1, by omega⟩
  unfold spec_SealRecord.f impl_SealRecord.f impl_isLong_int.f spec_l02Kind.f impl_isKind.f
  simp only [hv, InR_eq, Option.bind_some, impl_ints, spec_ints l (k + 1) (by omega) (by omega), firsts2, spec_SealRecord.j0, impl_SealRecord.j0]
  generalize (decide (1 ≤ a) && decide (a ≤ 9)) = q
  by_cases h : (l.length : Int) > 4096
  · exact ⟨(⟨#[]⟩, 2), by rw [if_pos h], by cases q <;> cases intsB l <;> simp [h]⟩
  · cases q with
    | false => exact ⟨(⟨#[]⟩, 4), by simp [h], by simp [h]⟩
    | true =>
      cases hb : intsB l with
      | false => exact ⟨(⟨#[]⟩, 4), by simp [h], by simp [h]⟩
      | true =>
        obtain ⟨r, e1, e2⟩ := seal_same a l k (by omega) (by omega)
        exact ⟨(r, 0), by simp [h, e1], by simp [h, e2]⟩
theorem FnExactSealRecord (a0 : Int) (l1 : List Int) (_ : (Lit.int .i64 a0).wf = true) (_ : l1.length ≤ maxLen) (_ : ∀ x ∈ l1, (fun x : Int => (Lit.int .i64 x).wf = true) x) : ∃ k, laws_FnExactSealRecord.f k a0 l1 = some true := by
  by_cases h : (l1.length : Int) > 1048576
  · exact ⟨0, by unfold laws_FnExactSealRecord.f; rw [if_pos h]⟩
  · refine ⟨2000000 + 1, ?_⟩
    obtain ⟨r, h1, h2⟩ := record_same a0 l1 (by omega) (2000000 + 1) (by omega)
    unfold laws_FnExactSealRecord.f
    rw [if_neg h]
    simp only [toIntS_eq l1 (2000000 + 1) (by omega) (by omega), Option.bind_some, h1, h2, if_true, laws_FnExactSealRecord.j0, bne_self_eq_false, Bool.false_eq_true, if_false, toIntS_eq l1 (2000000) (by omega) (by omega), eqIntS_self l1 (2000000) (by omega) (by omega)]
end Go.Proofs.Ytagdfjbbnhdpiaa.Pure
