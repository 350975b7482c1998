/- The program's CodeWord and the reference's give the same word for every code. No condition. -/
import Derived.Test.YtkhnglfecfmhlaaPFnExactCodeWordx1
namespace Go.Proofs.Ytkhnglfecfmhlaa.Pure
open Go.RowKit Go.Proofs.Ytkhnglfecfmhlaa.PFnExactCodeWord Go.Proofs.YtkhnglfecfmhlaaW.PrintWords Go.Proofs.YtkhnglfecfmhlaaW.PrintLast

theorem codeWord_same (a0 : Int) : ∃ r, spec_CodeWord.f a0 = some r ∧ impl_CodeWord.f a0 = some r := by
  obtain ⟨L, hL⟩ : ∃ L, impl_codeWords.f = some L := ⟨_, rfl⟩
  have hs : spec_CodeWord.f a0 = (impl_codeWords.f).bind fun y101 => (if a0 < 0 then (some (⟨#[]⟩ : ByteArray)) else (if a0 ≥ (y101.length : Int) then (some (⟨#[]⟩ : ByteArray)) else (if 0 ≤ a0 then (if a0 < (y101.length : Int) then (some (rdOf ByteArray.empty y101 a0)) else (none)) else (none)))) := rfl
  have hl : (L.length : Int) = 20 := by
    unfold impl_codeWords.f at hL
    obtain rfl := Option.some.inj hL
    rfl
  unfold impl_CodeWord.f impl_within.f
  rw [hs, hL]
  simp only [Option.bind_some, hl]
  by_cases h0 : 0 ≤ a0
  · by_cases h1 : a0 ≤ 19
    · refine ⟨rdOf ByteArray.empty L a0, ?_, ?_⟩
      · rw [if_neg (by omega), if_neg (by omega), if_pos h0, if_pos (by omega)]
      · rw [if_pos h0]
        simp only [Option.bind_some, h1, decide_true, if_true]
        rw [if_pos h0, if_pos (by omega)]
    · refine ⟨⟨#[]⟩, ?_, ?_⟩
      · rw [if_neg (by omega), if_pos (by omega)]
      · rw [if_pos h0]
        simp only [Option.bind_some, h1, decide_false, Bool.false_eq_true, if_false]
  · refine ⟨⟨#[]⟩, ?_, ?_⟩
    · rw [if_pos (by omega)]
    · rw [if_neg h0]
      simp only [Option.bind_some, Bool.false_eq_true, if_false]

theorem FnExactCodeWord : laws_FnExactCodeWord.Pure := by
  intro a0 _
  obtain ⟨r, h1, h2⟩ := codeWord_same a0
  unfold laws_FnExactCodeWord.f
  rw [h1, h2]
  simp only [Option.bind_some, if_true]

end Go.Proofs.Ytkhnglfecfmhlaa.Pure
