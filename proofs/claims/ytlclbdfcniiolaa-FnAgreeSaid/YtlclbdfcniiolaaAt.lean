/- The number that a law draws out of a code of bytes lies within bounds; for codes of at most 2^47 bytes and places up to 1000. -/
import Derived.Test.YtlclbdfcniiolaaQ2
import Derived.Test.YtlclbdfcniiolaaNext
set_option linter.unusedSimpArgs false
set_option linter.unusedVariables false
namespace Go.Proofs.Ytlclbdfcniiolaa.Pure
open Go.RowKit Go.Proofs.Ytlclbdfcniiolaa.Q Go.Proofs.Ytlclbdfcniiolaa.Hand Go.Proofs.YtlclbdfcniiolaaW.PrintWords Go.Proofs.YtlclbdfcniiolaaW.PrintLast Go.Proofs.YtlclbdfcniiolaaW.PrintMore
theorem at_is {l : List Int} (i n : Int) (h : ∀ x ∈ l, 0 ≤ x ∧ x ≤ 255) (hi : 0 ≤ i ∧ i ≤ 1000) (hn : 2 ≤ n) (hl : l.length ≤ 140737488351232) : ∃ r, laws_at.f l i n = some r ∧ 0 ≤ r ∧ r < n := by
  unfold laws_at.f
  rw [if_neg (by omega)]
  by_cases h0 : (l.length : Int) = 0
  · rw [if_pos h0, if_neg (by omega), w64n (by omega) (by omega), Int.tmod_eq_emod_of_nonneg (by omega)]
    exact ⟨_, rfl, Int.emod_nonneg _ (by omega), Int.emod_lt_of_pos _ (by omega)⟩
  · rw [if_neg h0, w64n (x := i + 1) (by omega) (by omega), Int.tmod_eq_emod_of_nonneg (by omega : 0 ≤ i), Int.tmod_eq_emod_of_nonneg (by omega : 0 ≤ i + 1)]
    have m0 := Int.emod_nonneg i h0
    have m1 := Int.emod_lt_of_pos i (show (0 : Int) < (l.length : Int) by omega)
    have m2 := Int.emod_nonneg (i + 1) h0
    have m3 := Int.emod_lt_of_pos (i + 1) (show (0 : Int) < (l.length : Int) by omega)
    rw [if_pos m0, if_pos m1, if_pos m2, if_pos m3, if_neg (by omega)]
    have r0 := h _ (rd_in m0 m1)
    have r1 := h _ (rd_in m2 m3)
    have t : Int.tdiv i (l.length : Int) = i / (l.length : Int) := Int.tdiv_eq_ediv_of_nonneg (by omega)
    have t0 : 0 ≤ i / (l.length : Int) := Int.ediv_nonneg (by omega) (by omega)
    have t1 : i / (l.length : Int) ≤ i := Int.ediv_le_self _ (by omega)
    generalize rd l (i % (l.length : Int)) = x at r0 ⊢
    generalize rd l ((i + 1) % (l.length : Int)) = y at r1 ⊢
    rw [t]
    generalize i / (l.length : Int) = z at t0 t1 ⊢
    rw [w64n (x := x) (by omega) (by omega), w64n (x := x * 31) (by omega) (by omega), w64n (x := y) (by omega) (by omega), w64n (x := x * 31 + y) (by omega) (by omega), w64n (x := z) (by omega) (by omega), w64n (x := x * 31 + y + z) (by omega) (by omega), Int.tmod_eq_emod_of_nonneg (by omega)]
    exact ⟨_, rfl, Int.emod_nonneg _ (by omega), Int.emod_lt_of_pos _ (by omega)⟩
end Go.Proofs.Ytlclbdfcniiolaa.Pure
