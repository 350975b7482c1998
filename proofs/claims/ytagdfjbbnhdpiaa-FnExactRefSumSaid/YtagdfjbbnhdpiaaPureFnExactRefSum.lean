/- The program's RefSum and the reference's give the same for every list of at most 1048576 numbers (the law's own guard). -/
import Derived.Test.YtagdfjbbnhdpiaaQ21
import Derived.Test.YtagdfjbbnhdpiaaAsk
set_option linter.unusedSimpArgs false
set_option linter.unusedVariables false
namespace Go.Proofs.Ytagdfjbbnhdpiaa.Pure
open Go.RowKit Go.Proofs.Ytagdfjbbnhdpiaa.Q Go.Proofs.Ytagdfjbbnhdpiaa.Hand Go.Proofs.YtagdfjbbnhdpiaaW.PrintWords Go.Proofs.YtagdfjbbnhdpiaaW.PrintLast Go.Proofs.YtagdfjbbnhdpiaaW.PrintMore
theorem sum_loops (l : List Int) (hn : l.length ≤ 35184372088832) (d : Nat) : ∀ (k i : Nat) (s : Int), i ≤ l.length → l.length - i = d → d < k → ∃ r, spec_RefSum.l0 k l s (i : Int) = some (r, 0) ∧ impl_RefSum.l0 k s l (l.length : Int) (i : Int) = some (r, 0) := by
  induction d with
  | zero =>
    intro k i s hi hd hk
    obtain ⟨k, rfl⟩ : ∃ m, k = m + 1 := ⟨k - 1, by omega⟩
    simp only [spec_RefSum.l0, impl_RefSum.l0]
    rw [if_neg (by omega), if_neg (by omega)]
    exact ⟨s, rfl, rfl⟩
  | succ d ih =>
    intro k i s hi hd hk
    obtain ⟨k, rfl⟩ : ∃ m, k = m + 1 := ⟨k - 1, by omega⟩
    have hlt : i < l.length := by omega
    simp only [spec_RefSum.l0, impl_RefSum.l0]
    rw [if_pos (by omega), if_pos (by omega), if_pos (by omega), if_pos (by omega), if_pos (by omega), wrap_small hlt hn]
    exact ih k (i + 1) _ (by omega) (by omega) (by omega)
theorem sum_same (l : List Int) (hl : l.length ≤ 1048576) (k : Nat) (hk : 8192 < k) : ∃ r, spec_RefSum.f k l = some r ∧ impl_RefSum.f k l = some r := by
  unfold spec_RefSum.f impl_RefSum.f impl_isLong_int.f
  simp only [ask_is l 0 k (by omega), impl_refs, Option.bind_some, firsts2]
  by_cases h : (l.length : Int) > 4096
  · exact ⟨(0, 2), by rw [if_pos h], by simp [h]⟩
  · cases hb : refsB l with
    | false => exact ⟨(0, 1), by simp [h], by simp [h]⟩
    | true =>
      obtain ⟨r, e1, e2⟩ := sum_loops l (by omega) l.length k 0 0 (by omega) (by omega) (by omega)
      refine ⟨(r, 0), ?_, ?_⟩
      · simp [h]; exact e1
      · simp [h]; exact e2
theorem FnExactRefSum (l0 : List Int) (_ : l0.length ≤ maxLen) (_ : ∀ x ∈ l0, (fun x : Int => (Lit.int .i64 x).wf = true) x) : ∃ k, laws_FnExactRefSum.f k l0 = some true := by
  by_cases h : (l0.length : Int) > 1048576
  · exact ⟨0, by unfold laws_FnExactRefSum.f; rw [if_pos h]⟩
  · refine ⟨2000000 + 1, ?_⟩
    obtain ⟨r, h1, h2⟩ := sum_same l0 (by omega) (2000000 + 1) (by omega)
    unfold laws_FnExactRefSum.f
    rw [if_neg h]
    simp only [toIntS_eq l0 (2000000 + 1) (by omega) (by omega), Option.bind_some, h1, h2, if_true, laws_FnExactRefSum.j0, bne_self_eq_false, Bool.false_eq_true, if_false, toIntS_eq l0 (2000000) (by omega) (by omega), eqIntS_self l0 (2000000) (by omega) (by omega)]
end Go.Proofs.Ytagdfjbbnhdpiaa.Pure
