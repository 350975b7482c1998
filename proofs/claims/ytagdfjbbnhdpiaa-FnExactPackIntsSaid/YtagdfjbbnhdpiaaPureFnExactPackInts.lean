/- The program's PackInts and the reference's give the same for every list of at most 1048576 numbers (the law's own guard). -/
import Derived.Test.YtagdfjbbnhdpiaaQ19
import Derived.Test.YtagdfjbbnhdpiaaNums
import Derived.Test.YtagdfjbbnhdpiaaPack
import Derived.Test.YtagdfjbbnhdpiaaFirsts
set_option linter.unusedSimpArgs false
set_option linter.unusedVariables false
namespace Go.Proofs.Ytagdfjbbnhdpiaa.Pure
open Go.RowKit Go.Proofs.Ytagdfjbbnhdpiaa.Q Go.Proofs.Ytagdfjbbnhdpiaa.Hand Go.Proofs.YtagdfjbbnhdpiaaW.PrintWords Go.Proofs.YtagdfjbbnhdpiaaW.PrintLast Go.Proofs.YtagdfjbbnhdpiaaW.PrintMore
theorem pack_same (l : List Int) (hl : l.length ≤ 1048576) (k : Nat) (hk : 1500000 < k) : ∃ r, spec_PackInts.f k l = some r ∧ impl_PackInts.f k l = some r := by
  unfold spec_PackInts.f impl_PackInts.f impl_isLong_int.f
  by_cases h : (l.length : Int) > 4096
  · exact ⟨(⟨#[]⟩, 2), by rw [if_pos h], by simp [impl_ints, firsts2, h]⟩
  · cases hb : intsB l with
    | false => exact ⟨(⟨#[]⟩, 4), by simp [spec_ints l k (by omega) (by omega), h, hb], by simp [impl_ints, firsts2, h, hb]⟩
    | true => exact ⟨(strOfNums (packed l), 0), by simp [spec_ints l k (by omega) (by omega), h, hb, pack_spec l k (by omega) (by omega)], by simp [impl_ints, firsts2, h, hb, pack_impl l k (by omega) (by omega)]⟩
theorem FnExactPackInts (l0 : List Int) (_ : l0.length ≤ maxLen) (_ : ∀ x ∈ l0, (fun x : Int => (Lit.int .i64 x).wf = true) x) : ∃ k, laws_FnExactPackInts.f k l0 = some true := by
  by_cases h : (l0.length : Int) > 1048576
  · exact ⟨0, by unfold laws_FnExactPackInts.f; rw [if_pos h]⟩
  · refine ⟨2000000 + 1, ?_⟩
    obtain ⟨r, h1, h2⟩ := pack_same l0 (by omega) (2000000 + 1) (by omega)
    unfold laws_FnExactPackInts.f
    rw [if_neg h]
    simp only [toIntS_eq l0 (2000000 + 1) (by omega) (by omega), Option.bind_some, h1, h2, if_true, laws_FnExactPackInts.j0, bne_self_eq_false, Bool.false_eq_true, if_false, toIntS_eq l0 (2000000) (by omega) (by omega), eqIntS_self l0 (2000000) (by omega) (by omega)]
end Go.Proofs.Ytagdfjbbnhdpiaa.Pure
