/- The program's SumOf and the reference's give the same sum for every text of at most 1048576 bytes (the law's own guard). -/
import Derived.Test.YtkhnglfecfmhlaaPFnExactSumOfx1
namespace Go.Proofs.Ytkhnglfecfmhlaa.Pure
open Go.RowKit Go.Proofs.Ytkhnglfecfmhlaa.PFnExactSumOf Go.Proofs.YtkhnglfecfmhlaaW.PrintWords Go.Proofs.YtkhnglfecfmhlaaW.PrintLast

theorem sum_same (s : ByteArray) : ∀ (k : Nat) (x i : Int), impl_sumOf.l0 k s x (s.size : Int) i = spec_l02Sum.l0 k s x i := by
  intro k
  induction k with
  | zero => intro x i; rfl
  | succ k ih =>
    intro x i
    simp only [impl_sumOf.l0, spec_l02Sum.l0]
    by_cases h1 : i < (s.size : Int)
    · by_cases h2 : 0 ≤ i
      · simp only [if_pos h1, if_pos h2, ih]
      · simp only [if_pos h1, if_neg h2]
    · simp only [if_neg h1]

theorem sum_some (s : ByteArray) (hn : s.size ≤ 140737488351232) (d : Nat) : ∀ (k : Nat) (x i : Int), 0 ≤ i → i ≤ s.size → (s.size : Int) - i = d → d < k → ∃ r, spec_l02Sum.l0 k s x i = some r := by
  induction d with
  | zero =>
    intro k x i h0 h1 hd hk
    obtain ⟨k, rfl⟩ : ∃ m, k = m + 1 := ⟨k - 1, by omega⟩
    simp only [spec_l02Sum.l0]
    rw [if_neg (by omega)]
    exact ⟨_, rfl⟩
  | succ d ih =>
    intro k x i h0 h1 hd hk
    obtain ⟨k, rfl⟩ : ∃ m, k = m + 1 := ⟨k - 1, by omega⟩
    have hlt : i < (s.size : Int) := by omega
    have hw : wrap64 (i + 1) = i + 1 := by unfold wrap64; omega
    simp only [spec_l02Sum.l0]
    rw [if_pos hlt, if_pos h0, hw]
    exact ih k _ (i + 1) (by omega) (by omega) (by omega) (by omega)

theorem FnExactSumOf : laws_FnExactSumOf.Pure := by
  intro s hn
  refine ⟨s.size + 1, ?_⟩
  unfold laws_FnExactSumOf.f
  by_cases h : (s.size : Int) > 1048576
  · rw [if_pos h]
  · rw [if_neg h]
    obtain ⟨r, hr⟩ := sum_some s hn s.size (s.size + 1) 0 0 (by omega) (by omega) (by omega) (by omega)
    have hi := sum_same s (s.size + 1) 0 0
    unfold spec_SumOf.f impl_SumOf.f impl_isLongText.f spec_l02Sum.f impl_sumOf.f
    rw [hi, hr]
    by_cases h2 : (s.size : Int) > 65536
    · simp [h2]
    · simp [h2]

end Go.Proofs.Ytkhnglfecfmhlaa.Pure
