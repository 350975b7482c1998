/- The program's RefUp and the reference's give the same for every list of at most 1048576 numbers (the law's own guard) and every place. -/
import Derived.Test.YtagdfjbbnhdpiaaQ22
import Derived.Test.YtagdfjbbnhdpiaaQ11
import Derived.Test.YtagdfjbbnhdpiaaAsk
import Derived.Test.YtagdfjbbnhdpiaaMarks
set_option linter.unusedSimpArgs false
set_option linter.unusedVariables false
namespace Go.Proofs.Ytagdfjbbnhdpiaa.Pure
open Go.RowKit Go.Proofs.Ytagdfjbbnhdpiaa.Q Go.Proofs.Ytagdfjbbnhdpiaa.Hand Go.Proofs.YtagdfjbbnhdpiaaW.PrintWords Go.Proofs.YtagdfjbbnhdpiaaW.PrintLast Go.Proofs.YtagdfjbbnhdpiaaW.PrintMore
theorem codes_is (l : List Int) (a : Int) : impl_refCodes.f l a = some (if (l.length : Int) > 4096 then 2 else if refsB l = true then (if (decide (0 ≤ a) && decide (a ≤ 23)) = true then 0 else 4) else 1) := by
  have hv : ∀ a b c, impl_within.f a b c = spec_l01In.f a b c := fun _ _ _ => rfl
  unfold impl_refCodes.f impl_isLong_int.f impl_isCluster.f
  simp only [impl_refs, hv, InR_eq, Option.bind_some, firsts3]
  generalize (decide (0 ≤ a) && decide (a ≤ 23)) = q
  by_cases h : (l.length : Int) > 4096
  · simp [h]
  · cases refsB l <;> cases q <;> simp [h]
theorem up_same (l : List Int) (a : Int) (hl : l.length ≤ 1048576) : ∃ r : List Int × Int, r.1.length ≤ 1048576 ∧ ∀ k, 8192 < k → spec_RefUp.f k l a = some r ∧ impl_RefUp.f l a = some r := by
  by_cases h : (l.length : Int) > 4096
  · refine ⟨([], 2), by simp, fun k hk => ⟨?_, ?_⟩⟩
    · unfold spec_RefUp.f; rw [if_pos h]
    · unfold impl_RefUp.f; simp [codes_is, h]
  cases hb : refsB l with
  | false =>
    refine ⟨([], 1), by simp, fun k hk => ⟨?_, ?_⟩⟩
    · unfold spec_RefUp.f; simp [ask_is l a k (by omega), h, hb]
    · unfold impl_RefUp.f; simp [codes_is, h, hb]
  | true =>
    have hn := refs_len hb
    cases hq : (decide (0 ≤ a) && decide (a ≤ 23)) with
    | false =>
      refine ⟨([], 4), by simp, fun k hk => ⟨?_, ?_⟩⟩
      · unfold spec_RefUp.f; simp only [ask_is l a k (by omega), h, hb, hq]; simp
      · unfold impl_RefUp.f; simp only [codes_is, h, hb, hq]; simp
    | true =>
      have hq' := hq
      simp only [Bool.and_eq_true, decide_eq_true_eq] at hq'
      have c1 : 0 ≤ a := hq'.1
      have c2 : a < (l.length : Int) := by omega
      by_cases h0 : rd l a = 15
      · refine ⟨(l, 6), hl, fun k hk => ⟨?_, ?_⟩⟩
        · unfold spec_RefUp.f
          simp only [ask_is l a k (by omega), h, hb, hq, Option.bind_some, if_true, if_false, if_pos c1, if_pos c2, if_pos h0, List.nil_append, List.length_nil]
          rw [if_pos (by omega)]
        · unfold impl_RefUp.f slices_Clone_int_int.f
          simp only [codes_is, h, hb, hq, if_true, if_false, Option.bind_some]
          rw [if_pos (by omega)]
          simp only [Option.bind_some, if_pos c1, if_pos c2, if_pos h0]
      · refine ⟨(l.set a.toNat (wrap64 (rd l a + 1)), 0), by simpa using hl, fun k hk => ⟨?_, ?_⟩⟩
        · unfold spec_RefUp.f spec_l08Add.f
          simp only [ask_is l a k (by omega), h, hb, hq, Option.bind_some, if_true, if_false, if_pos c1, if_pos c2, if_neg h0, List.nil_append, List.length_nil]
          rw [if_pos (by omega)]
          simp only [Option.bind_some, if_pos c1, if_pos c2]
        · unfold impl_RefUp.f slices_Clone_int_int.f
          simp only [codes_is, h, hb, hq, if_true, if_false, Option.bind_some]
          rw [if_pos (by omega)]
          simp only [Option.bind_some, if_pos c1, if_pos c2, if_neg h0]
theorem FnExactRefUp (l0 : List Int) (a1 : Int) (_ : l0.length ≤ maxLen) (_ : ∀ x ∈ l0, (fun x : Int => (Lit.int .i64 x).wf = true) x) (_ : (Lit.int .i64 a1).wf = true) : ∃ k, laws_FnExactRefUp.f k l0 a1 = some true := by
  by_cases h : (l0.length : Int) > 1048576
  · exact ⟨0, by unfold laws_FnExactRefUp.f; rw [if_pos h]⟩
  · refine ⟨2000000 + 1 + 1 + 1, ?_⟩
    obtain ⟨r', hl, hr⟩ := up_same l0 a1 (by omega)
    obtain ⟨h1, h2⟩ := hr (2000000 + 1 + 1 + 1) (by omega)
    obtain ⟨_, h5⟩ := hr (2000000 + 1) (by omega)
    have j2 : laws_FnExactRefUp.j2 (2000000 + 1) (marks r'.1.length) ((r'.1.length : Int) + 1) false = some true := by
      simp only [laws_FnExactRefUp.j2, Bool.false_eq_true, if_false, held_eq r'.1.length (2000000) (by omega) (by omega), Option.bind_some, if_true]
      rw [if_neg (by omega)]
    have j1 : laws_FnExactRefUp.j1 (2000000 + 1 + 1) l0 a1 r'.1 r'.2 r'.1 false = some true := by
      simp only [laws_FnExactRefUp.j1, Bool.false_eq_true, if_false, mark_eq r'.1 (2000000 + 1) (by omega) (by omega), held_eq r'.1.length (2000000 + 1) (by omega) (by omega), Option.bind_some, if_true, toIntS_eq l0 (2000000 + 1) (by omega) (by omega), h5, eqIntS_self r'.1 (2000000 + 1) (by omega) (by omega), bne_self_eq_false, j2]
      rw [if_neg (by omega)]
    unfold laws_FnExactRefUp.f
    rw [if_neg h]
    have j0 : laws_FnExactRefUp.j0 (2000000 + 1 + 1 + 1) l0 a1 r'.1 r'.2 l0 r'.1 r'.2 false = some true := by
      simp only [laws_FnExactRefUp.j0, Bool.false_eq_true, if_false, Option.bind_some, if_true, toIntS_eq l0 (2000000 + 1 + 1) (by omega) (by omega), eqIntS_self l0 (2000000 + 1 + 1) (by omega) (by omega), mark_eq l0 (2000000 + 1 + 1) (by omega) (by omega), eqIntS_self r'.1 (2000000 + 1 + 1) (by omega) (by omega), bne_self_eq_false, j1]
      rw [if_neg (by omega)]
    simp only [toIntS_eq l0 (2000000 + 1 + 1 + 1) (by omega) (by omega), Option.bind_some, h1, h2, if_true, bne_self_eq_false, eqIntS_self r'.1 (2000000 + 1 + 1 + 1) (by omega) (by omega), j0]
end Go.Proofs.Ytagdfjbbnhdpiaa.Pure
