/- The program's PxStep and the reference's give the same for every ballot and list of at most 1048576 blocks (the law's own guard). -/
import Derived.Test.YtlclbdfcniiolaaHandLp
import Derived.Test.YtlclbdfcniiolaaPxSame
import Derived.Test.YtlclbdfcniiolaaMarksB
set_option linter.unusedSimpArgs false
set_option linter.unusedVariables false
namespace Go.Proofs.Ytlclbdfcniiolaa.Pure
open Go.RowKit Go.Proofs.Ytlclbdfcniiolaa.Q Go.Proofs.Ytlclbdfcniiolaa.Hand Go.Proofs.YtlclbdfcniiolaaW.PrintWords Go.Proofs.YtlclbdfcniiolaaW.PrintLast Go.Proofs.YtlclbdfcniiolaaW.PrintMore
theorem FnExactPxStep {P : S59 → Prop} (a0 a1 a2 a3 a4 a5 a6 a7 : Int) (l1 : List S59) (_ : (Lit.int .i64 a0).wf = true) (_ : (Lit.int .i64 a1).wf = true) (_ : (Lit.int .i64 a2).wf = true) (_ : (Lit.int .i64 a3).wf = true) (_ : (Lit.int .i64 a4).wf = true) (_ : (Lit.int .i64 a5).wf = true) (_ : (Lit.int .i64 a6).wf = true) (_ : (Lit.int .i64 a7).wf = true) (hm : l1.length ≤ maxLen) (_ : ∀ x ∈ l1, P x) : ∃ k, laws_FnExactPxStep.F k a0 a1 a2 a3 a4 a5 a6 a7 l1 true := by
  have hm' : l1.length ≤ 8796093022208 * 1048576 := by unfold maxLen at hm; omega
  by_cases h : l1.length > 1048576
  · have w : wrap64 (1048576 - (l1.length : Int)) < 0 := by unfold wrap64; omega
    exact ⟨0, rfl, -1, by unfold laws_szBlockS.f; rw [if_pos w], .inl (by decide)⟩
  · have w : ¬ wrap64 (1048576 - (l1.length : Int)) < 0 := by unfold wrap64; omega
    refine ⟨2000000 + 1, rfl, _, by unfold laws_szBlockS.f; rw [if_neg w], .inr ⟨w, ?_⟩⟩
    have hlen : (l1.map toB).length = l1.length := List.length_map _
    obtain ⟨q1, q2, q3, q4, q5, q6, q7, q8, lq, c, h1, h2, h3⟩ := pxs_same a0 a1 a2 a3 a4 a5 a6 a7 (l1.map toB) (by omega) 2000000 (by omega)
    exact ⟨l1.map toB, lq, marksB (l1.map toB).length, marksB lq.length, q1, q2, q3, q4, q5, q6, q7, q8, c, 4 * ((l1.map toB).length : Int) + 1, 4 * (lq.length : Int) + 1, toBlockS_eq l1 _ (by omega) (by omega), h1, h2, eqBlockS_self lq _ (by omega) (by omega), eqBlockS_self _ _ (by omega) (by omega), markB_eq _ _ (by omega) (by omega), by omega, markB_eq _ _ (by omega) (by omega), heldB_eq _ _ (by omega) (by omega), by omega⟩
end Go.Proofs.Ytlclbdfcniiolaa.Pure
