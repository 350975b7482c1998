/- The program's FreeCluster and the reference's give the same for every list of at most 1048576 numbers (the law's own guard). -/
import Derived.Test.YtagdfjbbnhdpiaaQ18
import Derived.Test.YtagdfjbbnhdpiaaFree
import Derived.Test.YtagdfjbbnhdpiaaAsk
set_option linter.unusedSimpArgs false
set_option linter.unusedVariables false
namespace Go.Proofs.Ytagdfjbbnhdpiaa.Pure
open Go.RowKit Go.Proofs.Ytagdfjbbnhdpiaa.Q Go.Proofs.Ytagdfjbbnhdpiaa.Hand Go.Proofs.YtagdfjbbnhdpiaaW.PrintWords Go.Proofs.YtagdfjbbnhdpiaaW.PrintLast Go.Proofs.YtagdfjbbnhdpiaaW.PrintMore
theorem free_loops (l : List Int) : ∀ (k : Nat) (i : Int), spec_l08Free.l0 k l i = slices_Index_int_int.l0 k l 0 (l.length : Int) i := by
  intro k
  induction k with
  | zero => intro i; rfl
  | succ k ih =>
    intro i
    simp only [spec_l08Free.l0, slices_Index_int_int.l0]
    by_cases h1 : i < (l.length : Int)
    · by_cases h2 : 0 ≤ i
      · rw [if_pos h1, if_pos h1, if_pos h2, if_pos h2, if_pos h1, ih]
        by_cases h3 : rd l i = 0
        · rw [if_pos h3, if_pos h3.symm]
        · rw [if_neg h3, if_neg (fun h => h3 h.symm)]
      · rw [if_pos h1, if_pos h1, if_neg h2, if_neg h2]
    · rw [if_neg h1, if_neg h1]
theorem free_same (l : List Int) (hl : l.length ≤ 1048576) (k : Nat) (hk : 1500000 < k) : ∃ r, spec_FreeCluster.f k l = some r ∧ impl_FreeCluster.f k l = some r := by
  obtain ⟨r, e, _⟩ := index_is l k (by omega) (by omega)
  have e' : spec_l08Free.f k l = some r := by
    unfold spec_l08Free.f
    rw [free_loops]
    exact e
  refine ⟨_, ?_, free_is l k r e⟩
  unfold spec_FreeCluster.f
  by_cases h : (l.length : Int) > 4096
  · rw [if_pos h, if_pos h]
  · rw [if_neg h, if_neg h, ask_is l 0 k (by omega), if_neg h]
    cases refsB l
    · rfl
    · by_cases h0 : r < 0 <;> simp [e', h0]
theorem FnExactFreeCluster (l0 : List Int) (_ : l0.length ≤ maxLen) (_ : ∀ x ∈ l0, (fun x : Int => (Lit.int .i64 x).wf = true) x) : ∃ k, laws_FnExactFreeCluster.f k l0 = some true := by
  by_cases h : (l0.length : Int) > 1048576
  · exact ⟨0, by unfold laws_FnExactFreeCluster.f; rw [if_pos h]⟩
  · refine ⟨2000000 + 1, ?_⟩
    obtain ⟨r, h1, h2⟩ := free_same l0 (by omega) (2000000 + 1) (by omega)
    unfold laws_FnExactFreeCluster.f
    rw [if_neg h]
    simp only [toIntS_eq l0 (2000000 + 1) (by omega) (by omega), Option.bind_some, h1, h2, if_true, laws_FnExactFreeCluster.j0, bne_self_eq_false, Bool.false_eq_true, if_false, toIntS_eq l0 (2000000) (by omega) (by omega), eqIntS_self l0 (2000000) (by omega) (by omega)]
end Go.Proofs.Ytagdfjbbnhdpiaa.Pure
