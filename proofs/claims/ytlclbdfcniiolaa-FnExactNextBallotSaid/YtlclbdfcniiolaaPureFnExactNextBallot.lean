/- The program's NextBallot and the reference's give the same for every host, version and list of at most 1048576 blocks (the law's own guard). -/
import Derived.Test.YtlclbdfcniiolaaQ2
import Derived.Test.YtlclbdfcniiolaaBlocks
import Derived.Test.YtlclbdfcniiolaaBallot
import Derived.Test.YtlclbdfcniiolaaFirsts
set_option linter.unusedSimpArgs false
set_option linter.unusedVariables false
namespace Go.Proofs.Ytlclbdfcniiolaa.Pure
open Go.RowKit Go.Proofs.Ytlclbdfcniiolaa.Q Go.Proofs.Ytlclbdfcniiolaa.Hand Go.Proofs.YtlclbdfcniiolaaW.PrintWords Go.Proofs.YtlclbdfcniiolaaW.PrintLast Go.Proofs.YtlclbdfcniiolaaW.PrintMore

theorem ballot_same (h v : Int) (l : List S53) (hl : l.length ≤ 1048576) (k : Nat) (hk : 1500000 < k) : ∃ r, spec_NextBallot.f k h v l = some r ∧ impl_NextBallot.f k h v l = some r := by
  have hv : ∀ a b c, impl_within.f a b c = spec_l01In.f a b c := fun _ _ _ => rfl
  obtain ⟨k, rfl⟩ : ∃ m, k = m + 1 := ⟨k - 1, by omega⟩
  obtain ⟨n, e1, e2⟩ := next_same h v l k (by omega) (by omega)
  unfold spec_NextBallot.f impl_NextBallot.f impl_Block_40.f spec_l04Host.f impl_isHost.f impl_isVer.f
  simp only [hv, InR_eq, Option.bind_some, spec_blocks l (k + 1) (by omega) (by omega), impl_blocks, firsts3, spec_NextBallot.j0, impl_NextBallot.j0, e1, e2]
  generalize (decide (0 ≤ h) && decide (h ≤ 3)) = p
  generalize (decide (0 ≤ v) && decide (v ≤ 1000000)) = q
  by_cases hL : (l.length : Int) > 4096
  · exact ⟨(0, 2), by rw [if_pos hL], by cases p <;> cases q <;> simp [hL]⟩
  · rw [if_neg hL]
    cases blocksB l <;> cases p <;> cases q <;> simp [hL]
    by_cases hn : 1000000 < n
    · exact ⟨0, 6, if_pos hn⟩
    · exact ⟨n, 0, if_neg hn⟩
theorem FnExactNextBallot {P : S59 → Prop} (a0 a1 : Int) (l2 : List S59) (_ : (Lit.int .i64 a0).wf = true) (_ : (Lit.int .i64 a1).wf = true) (hm : l2.length ≤ maxLen) (_ : ∀ x ∈ l2, P x) : ∃ k, laws_FnExactNextBallot.f k a0 a1 l2 = some true := by
  have hm' : l2.length ≤ 8796093022208 * 1048576 := by unfold maxLen at hm; omega
  by_cases h : l2.length > 1048576
  · refine ⟨0, ?_⟩
    have w : wrap64 (1048576 - (l2.length : Int)) < 0 := by unfold wrap64; omega
    unfold laws_FnExactNextBallot.f laws_szBlockS.f
    rw [if_pos w]
    rfl
  · refine ⟨2000000 + 1, ?_⟩
    have w : ¬ wrap64 (1048576 - (l2.length : Int)) < 0 := by unfold wrap64; omega
    obtain ⟨r, h1, h2⟩ := ballot_same a0 a1 (l2.map toB) (by rw [List.length_map]; omega) (2000000 + 1) (by omega)
    unfold laws_FnExactNextBallot.f laws_szBlockS.f
    rw [if_neg w]
    simp only [Option.bind_some, if_neg w, toBlockS_eq l2 (2000000 + 1) (by omega) (by omega), h1, h2, if_true, laws_FnExactNextBallot.j0, bne_self_eq_false, Bool.false_eq_true, if_false, toBlockS_eq l2 2000000 (by omega) (by omega), eqBlockS_self (l2.map toB) 2000000 (by rw [List.length_map]; omega) (by rw [List.length_map]; omega)]
end Go.Proofs.Ytlclbdfcniiolaa.Pure
