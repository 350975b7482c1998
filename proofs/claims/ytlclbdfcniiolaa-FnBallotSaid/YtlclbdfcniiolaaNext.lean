/- The reference's source of choices: whatever it is asked, what it gives lies within bounds; for right sources (Src) whose place has room. -/
import Derived.Test.YtlclbdfcniiolaaQ3
import Derived.Test.YtlclbdfcniiolaaQ2
import Derived.Test.YtlclbdfcniiolaaHandB
set_option linter.unusedSimpArgs false
set_option linter.unusedVariables false
namespace Go.Proofs.Ytlclbdfcniiolaa.Pure
open Go.RowKit Go.Proofs.Ytlclbdfcniiolaa.Q Go.Proofs.Ytlclbdfcniiolaa.Hand Go.Proofs.YtlclbdfcniiolaaW.PrintWords Go.Proofs.YtlclbdfcniiolaaW.PrintLast Go.Proofs.YtlclbdfcniiolaaW.PrintMore
theorem w64n {x : Int} (h1 : -9223372036854775808 ≤ x) (h2 : x ≤ 9223372036854775807) : wrap64 x = x := by unfold wrap64; omega
theorem rd_in {l : List Int} {a : Int} (h0 : 0 ≤ a) (h : a < (l.length : Int)) : rd l a ∈ l := by
  unfold rd
  rw [List.getD_eq_getElem?_getD, List.getElem?_eq_getElem (by omega : a.toNat < l.length)]
  exact List.getElem_mem _
theorem byte_is {l : List Int} {a s : Int} (h : Src l a s) (hr : a + 1 ≤ 1099511627776) : ∃ b s', spec_l00Src_byte.f l a s = some (b, a + 1, s') ∧ 0 ≤ b ∧ b ≤ 255 ∧ Src l (a + 1) s' := by
  have h' := h
  obtain ⟨h0, h1, h2, h3, h4⟩ := h
  unfold spec_l00Src_byte.f
  rw [if_pos h']
  by_cases hl : a < (l.length : Int)
  · rw [if_pos hl]
    have hb := h4 _ (rd_in h0 hl)
    exact ⟨_, _, rfl, hb.1, hb.2, by omega, hr, by omega, by omega, h4⟩
  · rw [if_neg hl]
    by_cases h3k : a + 1 > 3000
    · rw [if_pos h3k]
      exact ⟨_, _, rfl, by omega, by omega, by omega, hr, h2, h3, h4⟩
    · rw [if_neg h3k]
      exact ⟨_, _, rfl, by omega, by omega, by omega, hr, by omega, by omega, h4⟩
theorem next_is {l : List Int} {a s : Int} (n : Int) (h : Src l a s) (hr : a + 3 ≤ 1099511627776) (hn : n ≤ 16777216) :
    ∃ r a' s', spec_l00Src_next.f l a s n = some (r, a', s') ∧ 0 ≤ r ∧ (r < n ∨ r = 0) ∧ (n ≤ 1 → r = 0) ∧ a ≤ a' ∧ a' ≤ a + 3 ∧ Src l a' s' := by
  unfold spec_l00Src_next.f
  by_cases h1 : n ≤ 1
  · rw [if_pos h1]
    exact ⟨0, a, s, rfl, by omega, by omega, fun _ => rfl, by omega, by omega, h⟩
  · rw [if_neg h1]
    by_cases h2 : n ≤ 256
    · rw [if_pos h2]
      obtain ⟨b, s', e, b0, b1, hs⟩ := byte_is h (by omega)
      rw [e]
      simp only [Option.bind_some]
      rw [if_neg (by omega), Int.tmod_eq_emod_of_nonneg b0]
      have m0 := Int.emod_nonneg b (show n ≠ 0 by omega)
      have m1 := Int.emod_lt_of_pos b (show 0 < n by omega)
      exact ⟨_, _, _, rfl, m0, by omega, by omega, by omega, by omega, hs⟩
    · rw [if_neg h2]
      obtain ⟨b, s1, e1, b0, b1, hs1⟩ := byte_is h (by omega)
      rw [e1]
      simp only [Option.bind_some]
      obtain ⟨c, s2, e2, c0, c1, hs2⟩ := byte_is hs1 (by omega)
      rw [e2]
      simp only [Option.bind_some]
      obtain ⟨d, s3, e3, d0, d1, hs3⟩ := byte_is hs2 (by omega)
      rw [e3]
      simp only [Option.bind_some]
      rw [w64n (x := b * 65536) (by omega) (by omega), w64n (x := c * 256) (by omega) (by omega), w64n (x := b * 65536 + c * 256) (by omega) (by omega), w64n (x := b * 65536 + c * 256 + d) (by omega) (by omega)]
      rw [if_neg (by omega), Int.tmod_eq_emod_of_nonneg (by omega)]
      have m0 := Int.emod_nonneg (b * 65536 + c * 256 + d) (show n ≠ 0 by omega)
      have m1 := Int.emod_lt_of_pos (b * 65536 + c * 256 + d) (show 0 < n by omega)
      exact ⟨_, _, _, rfl, m0, by omega, by omega, by omega, by omega, hs3⟩
theorem source_is {l : List Int} (h : ∀ x ∈ l, (fun x : Int => (Lit.int .u8 x).wf = true) x) : spec_l00Source.f l = some (l, 0, (l.length : Int) % 1000) ∧ Src l 0 ((l.length : Int) % 1000) := by
  refine ⟨rfl, by omega, by omega, by omega, by omega, fun x hx => ?_⟩
  have := h x hx
  simp [Lit.wf, IntKind.min, IntKind.max, IntKind.bits, IntKind.signed] at this
  omega
end Go.Proofs.Ytlclbdfcniiolaa.Pure
