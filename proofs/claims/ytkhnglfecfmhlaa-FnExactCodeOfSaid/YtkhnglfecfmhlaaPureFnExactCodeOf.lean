/- The program's CodeOf and the reference's give the same code for every word of at most 1048576 bytes (the law's own guard). -/
import Derived.Test.YtkhnglfecfmhlaaPFnExactCodeOfx1
namespace Go.Proofs.Ytkhnglfecfmhlaa.Pure
open Go.RowKit Go.Proofs.Ytkhnglfecfmhlaa.PFnExactCodeOf Go.Proofs.YtkhnglfecfmhlaaW.PrintWords Go.Proofs.YtkhnglfecfmhlaaW.PrintLast

theorem loops (s : ByteArray) (L : List ByteArray) (hL : impl_codeWords.f = some L) (d : Nat) : ∀ (k : Nat) (i : Int), 0 ≤ i → (20 : Int) - i = d → d < k →
    ∃ r, spec_CodeOf.l0 k s i = some r ∧ slices_Index_string_string.l0 k L s (L.length : Int) i = some r := by
  have hlen : (L.length : Int) = 20 := by
    unfold impl_codeWords.f at hL
    obtain rfl := Option.some.inj hL
    rfl
  have hw : ∀ i : Int, 0 ≤ i → i < 20 → spec_CodeWord.f i = some (rdOf ByteArray.empty L i) := by
    intro i h0 h1
    unfold impl_codeWords.f at hL
    obtain rfl := Option.some.inj hL
    unfold spec_CodeWord.f
    simp only [Option.bind_some, List.length_cons, List.length_nil]
    rw [if_neg (by omega), if_neg (by omega), if_pos h0, if_pos (by omega)]
  clear hL
  induction d with
  | zero =>
    intro k i h0 hd hk
    obtain ⟨k, rfl⟩ : ∃ m, k = m + 1 := ⟨k - 1, by omega⟩
    refine ⟨-1, ?_, ?_⟩
    · simp only [spec_CodeOf.l0]
      rw [if_neg (by omega)]
    · simp only [slices_Index_string_string.l0]
      rw [if_neg (by omega)]
  | succ d ih =>
    intro k i h0 hd hk
    obtain ⟨k, rfl⟩ : ∃ m, k = m + 1 := ⟨k - 1, by omega⟩
    have hwr : wrap64 (i + 1) = i + 1 := by unfold wrap64; omega
    obtain ⟨r, h1, h2⟩ := ih k (i + 1) (by omega) (by omega) (by omega)
    by_cases he : (rdOf ByteArray.empty L i).toList = s.toList
    · refine ⟨i, ?_, ?_⟩
      · simp only [spec_CodeOf.l0]
        rw [if_pos (by omega), hw i h0 (by omega)]
        simp only [Option.bind_some]
        rw [if_pos he]
      · simp only [slices_Index_string_string.l0]
        rw [if_pos (by omega), if_pos h0, if_pos (by omega), if_pos he.symm]
    · refine ⟨r, ?_, ?_⟩
      · simp only [spec_CodeOf.l0]
        rw [if_pos (by omega), hw i h0 (by omega)]
        simp only [Option.bind_some]
        rw [if_neg he, hwr]; exact h1
      · simp only [slices_Index_string_string.l0]
        rw [if_pos (by omega), if_pos h0, if_pos (by omega), if_neg (fun h => he h.symm), hwr]; exact h2

theorem FnExactCodeOf : laws_FnExactCodeOf.Pure := by
  intro s hn
  refine ⟨30, ?_⟩
  unfold laws_FnExactCodeOf.f
  by_cases h : (s.size : Int) > 1048576
  · rw [if_pos h]
  · rw [if_neg h]
    obtain ⟨L, hL⟩ : ∃ L, impl_codeWords.f = some L := ⟨_, rfl⟩
    obtain ⟨r, h1, h2⟩ := loops s L hL 20 30 0 (by omega) (by omega) (by omega)
    unfold spec_CodeOf.f impl_CodeOf.f slices_Index_string_string.f
    rw [h1, hL]
    simp only [Option.bind_some, h2, if_true]

end Go.Proofs.Ytkhnglfecfmhlaa.Pure
