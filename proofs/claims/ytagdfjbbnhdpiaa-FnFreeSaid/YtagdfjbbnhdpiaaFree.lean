/- Where the program's FreeCluster looks: the first place of a list that holds nothing, as a plain function; for lists of at most 2^45 numbers. -/
import Derived.Test.YtagdfjbbnhdpiaaQ13
import Derived.Test.YtagdfjbbnhdpiaaTables
import Derived.Test.YtagdfjbbnhdpiaaFirsts
set_option linter.unusedSimpArgs false
set_option linter.unusedVariables false
namespace Go.Proofs.Ytagdfjbbnhdpiaa.Pure
open Go.RowKit Go.Proofs.Ytagdfjbbnhdpiaa.Q Go.Proofs.Ytagdfjbbnhdpiaa.Hand Go.Proofs.YtagdfjbbnhdpiaaW.PrintWords Go.Proofs.YtagdfjbbnhdpiaaW.PrintLast Go.Proofs.YtagdfjbbnhdpiaaW.PrintMore
theorem index_loop (l : List Int) (hn : l.length ≤ 35184372088832) (d : Nat) : ∀ (k i : Nat), i ≤ l.length → l.length - i = d → d < k → ∃ r, slices_Index_int_int.l0 k l 0 (l.length : Int) (i : Int) = some r ∧ ((r = -1 ∧ ∀ j : Nat, i ≤ j → j < l.length → rd l (j : Int) ≠ 0) ∨ ((i : Int) ≤ r ∧ r < (l.length : Int) ∧ rd l r = 0 ∧ ∀ j : Nat, i ≤ j → (j : Int) < r → rd l (j : Int) ≠ 0)) := by
  induction d with
  | zero =>
    intro k i hi hd hk
    obtain ⟨k, rfl⟩ : ∃ m, k = m + 1 := ⟨k - 1, by omega⟩
    simp only [slices_Index_int_int.l0]
    rw [if_neg (by omega)]
    exact ⟨-1, rfl, .inl ⟨rfl, fun j h1 h2 => absurd h2 (by omega)⟩⟩
  | succ d ih =>
    intro k i hi hd hk
    obtain ⟨k, rfl⟩ : ∃ m, k = m + 1 := ⟨k - 1, by omega⟩
    have hlt : i < l.length := by omega
    simp only [slices_Index_int_int.l0]
    rw [if_pos (by omega), if_pos (by omega), if_pos (by omega), wrap_small hlt hn]
    by_cases h0 : (0 : Int) = rd l (i : Int)
    · rw [if_pos h0]
      exact ⟨_, rfl, .inr ⟨by omega, by omega, h0.symm, fun j h1 h2 => absurd h2 (by omega)⟩⟩
    · rw [if_neg h0]
      obtain ⟨r, e, hr⟩ := ih k (i + 1) (by omega) (by omega) (by omega)
      refine ⟨r, e, ?_⟩
      rcases hr with ⟨h1, h2⟩ | ⟨h1, h2, h3, h4⟩
      · refine .inl ⟨h1, fun j j1 j2 => ?_⟩
        by_cases hj : j = i
        · subst hj; exact fun h => h0 h.symm
        · exact h2 j (by omega) j2
      · refine .inr ⟨by omega, h2, h3, fun j j1 j2 => ?_⟩
        by_cases hj : j = i
        · subst hj; exact fun h => h0 h.symm
        · exact h4 j (by omega) j2
/-- The first place that holds nothing, or -1. -/
theorem index_is (l : List Int) (k : Nat) (hn : l.length ≤ 35184372088832) (hk : l.length < k) : ∃ r, slices_Index_int_int.f k l 0 = some r ∧ ((r = -1 ∧ ∀ j : Nat, j < l.length → rd l (j : Int) ≠ 0) ∨ (0 ≤ r ∧ r < (l.length : Int) ∧ rd l r = 0 ∧ ∀ j : Nat, (j : Int) < r → rd l (j : Int) ≠ 0)) := by
  unfold slices_Index_int_int.f
  obtain ⟨r, e, hr⟩ := index_loop l hn l.length k 0 (by omega) (by omega) hk
  refine ⟨r, e, ?_⟩
  rcases hr with ⟨h1, h2⟩ | ⟨h1, h2, h3, h4⟩
  · exact .inl ⟨h1, fun j hj => h2 j (Nat.zero_le _) hj⟩
  · exact .inr ⟨h1, h2, h3, fun j hj => h4 j (Nat.zero_le _) hj⟩
theorem free_is (l : List Int) (k : Nat) (r : Int) (e : slices_Index_int_int.f k l 0 = some r) : impl_FreeCluster.f k l = some (if (l.length : Int) > 4096 then (0, 2) else if refsB l = true then (if r < 0 then (0, 7) else (r, 0)) else (0, 1)) := by
  unfold impl_FreeCluster.f impl_isLong_int.f
  rw [e]
  simp only [impl_refs, Option.bind_some, firsts3]
  by_cases h : (l.length : Int) > 4096
  · simp [h]
  · cases refsB l
    · simp [h]
    · by_cases h0 : r < 0 <;> simp [h, h0]
end Go.Proofs.Ytagdfjbbnhdpiaa.Pure
