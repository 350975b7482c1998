/- A host's next ballot: the program's and the reference's, as plain functions, give the same; for lists of at most 2^40 blocks. -/
import Derived.Test.YtlclbdfcniiolaaQ1
import Derived.Test.YtlclbdfcniiolaaRd
set_option linter.unusedSimpArgs false
set_option linter.unusedVariables false
namespace Go.Proofs.Ytlclbdfcniiolaa.Pure
open Go.RowKit Go.Proofs.Ytlclbdfcniiolaa.Q Go.Proofs.Ytlclbdfcniiolaa.Hand Go.Proofs.YtlclbdfcniiolaaW.PrintWords Go.Proofs.YtlclbdfcniiolaaW.PrintLast Go.Proofs.YtlclbdfcniiolaaW.PrintMore

theorem next_loops (h v : Int) (l : List S53) (hn : l.length ≤ 8796093022208) (d : Nat) : ∀ (k i : Nat) (n : Int), i ≤ l.length → l.length - i = d → d < k → ∃ r, spec_l05Next.l0 k h v l n (i : Int) = some r ∧ impl_nextBallot.l0 k h v n l (l.length : Int) (i : Int) = some r := by
  have hv : ∀ a b c d e, impl_Block_of.f a b c d e = spec_l05Of.f a b c d e := fun _ _ _ _ _ => rfl
  induction d with
  | zero =>
    intro k i n hi hd hk
    obtain ⟨k, rfl⟩ : ∃ m, k = m + 1 := ⟨k - 1, by omega⟩
    have c : ¬ (i : Int) < (l.length : Int) := by omega
    simp only [spec_l05Next.l0, impl_nextBallot.l0, if_neg c]
    exact ⟨_, rfl, rfl⟩
  | succ d ih =>
    intro k i n hi hd hk
    obtain ⟨k, rfl⟩ : ∃ m, k = m + 1 := ⟨k - 1, by omega⟩
    have hlt : i < l.length := by omega
    have c : (i : Int) < (l.length : Int) := by omega
    have c0 : (0 : Int) ≤ (i : Int) := by omega
    simp only [spec_l05Next.l0, impl_nextBallot.l0, if_pos c, if_pos c0, hv]
    rw [wrap_small hlt (by omega)]
    unfold spec_l05Of.f
    by_cases h1 : (rd_T53 l (i : Int)).f0 < v
    · simp only [if_pos h1, Option.bind_some]
      exact ih k (i + 1) _ (by omega) (by omega) (by omega)
    · simp only [if_neg h1, Option.bind_some]
      exact ih k (i + 1) _ (by omega) (by omega) (by omega)
theorem next_same (h v : Int) (l : List S53) (k : Nat) (hn : l.length ≤ 8796093022208) (hk : l.length < k) : ∃ r, spec_l05Next.f k h v l = some r ∧ impl_nextBallot.f k h v l = some r :=
  next_loops h v l hn l.length k 0 0 (by omega) (by omega) hk
end Go.Proofs.Ytlclbdfcniiolaa.Pure
