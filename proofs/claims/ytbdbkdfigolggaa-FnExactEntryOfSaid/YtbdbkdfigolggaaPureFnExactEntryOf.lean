/- The program's EntryOf and the reference's give the same for every list of at most 1048576 numbers (the law's own guard) and every place. -/
import Derived.Test.YtbdbkdfigolggaaQ7
import Derived.Test.YtbdbkdfigolggaaTables
set_option linter.unusedSimpArgs false
set_option linter.unusedVariables false
namespace Go.Proofs.Ytbdbkdfigolggaa.Pure
open Go.RowKit Go.Proofs.Ytbdbkdfigolggaa.Q Go.Proofs.Ytbdbkdfigolggaa.Hand Go.Proofs.YtbdbkdfigolggaaW.PrintWords Go.Proofs.YtbdbkdfigolggaaW.PrintLast Go.Proofs.YtbdbkdfigolggaaW.PrintMore
theorem entry_same (l : List Int) (g : Int) (hl : l.length ≤ 1048576) (k : Nat) (hk : 4096 < k) : ∃ r, spec_EntryOf.f k l g = some r ∧ impl_EntryOf.f l g = some r := by
  have hv : ∀ a b c, impl_within.f a b c = spec_l01In.f a b c := fun _ _ _ => rfl
  have hw : wrap64 ((l.length : Int) - 1) = (l.length : Int) - 1 := by unfold wrap64; omega
  unfold spec_EntryOf.f impl_EntryOf.f impl_isLong_int.f
  simp only [spec_table l k hk, impl_table, hv, InR_eq, hw, Option.bind_some]
  by_cases h1 : (l.length : Int) > 4096
  · exact ⟨(0, 0, 2), by rw [if_pos h1], by simp [impl_first.f, firstOf, AnyV.asBool, AnyV.asInt, h1]⟩
  · rw [if_neg h1]
    cases h2 : tableB l with
    | false => exact ⟨(0, 0, 1), by simp, by simp [impl_first.f, firstOf, AnyV.asBool, AnyV.asInt, h1]⟩
    | true =>
      by_cases h3 : 0 ≤ g ∧ g ≤ (l.length : Int) - 1
      · have h4 : decide (0 ≤ g) = true := decide_eq_true h3.1
        have h5 : decide (g ≤ (l.length : Int) - 1) = true := decide_eq_true h3.2
        have h6 : g < (l.length : Int) := by omega
        have hm : mx 0 (wrap64 (rd l g - 2)) = mx (wrap64 (rd l g - 2)) 0 := by unfold mx; split <;> split <;> omega
        simp only [h4, h5, Bool.and_self, if_true, if_pos h3.1, if_pos h6, hm]
        exact ⟨_, rfl, by simp [impl_first.f, firstOf, AnyV.asBool, AnyV.asInt, h1]⟩
      · have h4 : (decide (0 ≤ g) && decide (g ≤ (l.length : Int) - 1)) = false := by
          rw [Bool.and_eq_false_iff, decide_eq_false_iff_not, decide_eq_false_iff_not]; omega
        simp only [h4]
        exact ⟨(0, 0, 4), by simp, by simp [impl_first.f, firstOf, AnyV.asBool, AnyV.asInt, h1]⟩
theorem FnExactEntryOf (l0 : List Int) (a1 : Int) (_ : l0.length ≤ maxLen) (_ : ∀ x ∈ l0, (fun x : Int => (Lit.int .i64 x).wf = true) x) (_ : (Lit.int .i64 a1).wf = true) : ∃ k, laws_FnExactEntryOf.f k l0 a1 = some true := by
  by_cases h : (l0.length : Int) > 1048576
  · exact ⟨0, by unfold laws_FnExactEntryOf.f; rw [if_pos h]⟩
  · refine ⟨1048577 + 4097, ?_⟩
    obtain ⟨r, h1, h2⟩ := entry_same l0 a1 (by omega) (1048577 + 4097) (by omega)
    unfold laws_FnExactEntryOf.f
    rw [if_neg h]
    simp only [toIntS_eq l0 (1048577 + 4097) (by omega) (by omega), Option.bind_some, h1, h2, if_true, laws_FnExactEntryOf.j0, bne_self_eq_false, Bool.false_eq_true, if_false, toIntS_eq l0 (1048577 + 4096) (by omega) (by omega), eqIntS_self l0 (1048577 + 4096) (by omega) (by omega)]
end Go.Proofs.Ytbdbkdfigolggaa.Pure
