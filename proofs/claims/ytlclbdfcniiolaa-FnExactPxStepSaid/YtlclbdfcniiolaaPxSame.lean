/- The program's PxStep and the reference's, as plain functions, give the same; for lists of at most 2^40 blocks. -/
import Derived.Test.YtlclbdfcniiolaaQ8
import Derived.Test.YtlclbdfcniiolaaQ2
import Derived.Test.YtlclbdfcniiolaaBlocks
import Derived.Test.YtlclbdfcniiolaaHandA
set_option linter.unusedSimpArgs false
set_option linter.unusedVariables false
namespace Go.Proofs.Ytlclbdfcniiolaa.Pure
open Go.RowKit Go.Proofs.Ytlclbdfcniiolaa.Q Go.Proofs.Ytlclbdfcniiolaa.Hand Go.Proofs.YtlclbdfcniiolaaW.PrintWords Go.Proofs.YtlclbdfcniiolaaW.PrintLast Go.Proofs.YtlclbdfcniiolaaW.PrintMore
def pxB (a b c d e f g h : Int) : Bool := (decide (0 ≤ a) && decide (a ≤ 3)) && (decide (0 ≤ b) && decide (b ≤ 1000000)) && (decide (1 ≤ c) && decide (c ≤ 6)) && (decide (1 ≤ d) && decide (d ≤ 1000000)) && decide (Int.tmod d 4 = a) && (decide (0 ≤ e) && decide (e ≤ 2147483647)) && (decide (0 ≤ f) && decide (f ≤ 4)) && (decide (0 ≤ g) && decide (g ≤ 2147483647)) && (decide (0 ≤ h) && decide (h ≤ 1000000))
theorem px_both (a b c d e f g h : Int) (k : Nat) : spec_PxOK.f (k + 1) a b c d e f g h = some (pxB a b c d e f g h) ∧ impl_PxOK.f a b c d e f g h = some (pxB a b c d e f g h) := by
  have hv : ∀ a b c, impl_within.f a b c = spec_l01In.f a b c := fun _ _ _ => rfl
  unfold spec_PxOK.f impl_PxOK.f impl_isHost.f impl_isVer.f impl_isNumber.f spec_l04Host.f pxB
  simp only [hv, InR_eq, Option.bind_some, spec_PxOK.j0, spec_l02Int.f]
  generalize (decide (0 ≤ a) && decide (a ≤ 3)) = b0
  generalize (decide (0 ≤ b) && decide (b ≤ 1000000)) = b1
  generalize (decide (1 ≤ c) && decide (c ≤ 6)) = b2
  generalize (decide (1 ≤ d) && decide (d ≤ 1000000)) = b3
  generalize (decide (0 ≤ e) && decide (e ≤ 2147483647)) = b4
  generalize (decide (0 ≤ f) && decide (f ≤ 4)) = b5
  generalize (decide (0 ≤ g) && decide (g ≤ 2147483647)) = b6
  generalize (decide (0 ≤ h) && decide (h ≤ 1000000)) = b7
  cases b0 with
  | false => exact ⟨by simp, by simp⟩
  | true =>
    cases b1 with
    | false => exact ⟨by simp, by simp⟩
    | true =>
      cases b2 with
      | false => exact ⟨by simp, by simp⟩
      | true =>
        cases b3 with
        | false => exact ⟨by simp, by simp⟩
        | true =>
          by_cases he : Int.tmod d 4 = a
          · have e2 : (Int.tmod d 4 != a) = false := by simpa using he
            simp only [e2, if_pos he, Bool.false_eq_true, if_false, if_true, decide_eq_true he]
            cases b4 <;> cases b5 <;> cases b6 <;> exact ⟨rfl, rfl⟩
          · have e2 : (Int.tmod d 4 != a) = true := by simpa using he
            simp only [e2, if_neg he, if_true, decide_eq_false he]
            exact ⟨by simp, by simp⟩
theorem pxB_bounds {a b c d e f g h : Int} (hp : pxB a b c d e f g h = true) : (0 ≤ a ∧ a < 4) ∧ (0 ≤ b ∧ b ≤ 1000000) ∧ (1 ≤ c ∧ c ≤ 6) ∧ (1 ≤ d ∧ d ≤ 1000000) ∧ Int.tmod d 4 = a ∧ (0 ≤ e ∧ e ≤ 2147483647) ∧ (0 ≤ f ∧ f ≤ 4) ∧ (0 ≤ g ∧ g ≤ 2147483647) ∧ (0 ≤ h ∧ h ≤ 1000000) := by
  unfold pxB at hp
  simp only [Bool.and_eq_true, decide_eq_true_eq] at hp
  omega
theorem firsts2 (x y : Bool) (c d : Int) : impl_first.f [AnyV.b x, AnyV.i c, AnyV.b y, AnyV.i d] = some (if x = true then c else if y = true then d else 0) := by
  cases x <;> cases y <;> simp [impl_first.f, firstOf, AnyV.asBool, AnyV.asInt]
theorem step_length (a0 a1 a2 a3 a4 a5 a6 a7 : Int) (l : List S53) : (impl_Px_step.g a0 a1 a2 a3 a4 a5 a6 a7 l).2.2.2.2.2.2.2.2.length = l.length := by
  unfold impl_Px_step.g
  have hw : ∀ p, (pxWrite a0 a1 p a3 a4 a5 a6 a7 l).2.2.2.2.2.2.2.2.length = l.length := by
    intro p
    unfold pxWrite pxWriteD
    split <;> split <;> simp
  split
  · exact hw 1
  · split
    · exact hw 3
    · rfl
theorem pxs_same (a0 a1 a2 a3 a4 a5 a6 a7 : Int) (l : List S53) (hl : l.length ≤ 1099511627776) (k : Nat) (hk : l.length < k) : ∃ q1 q2 q3 q4 q5 q6 q7 q8 lq c, spec_PxStep.f (k + 1) a0 a1 a2 a3 a4 a5 a6 a7 l = some (q1, q2, q3, q4, q5, q6, q7, q8, lq, c) ∧ impl_PxStep.f (k + 1) a0 a1 a2 a3 a4 a5 a6 a7 l = some (q1, q2, q3, q4, q5, q6, q7, q8, lq, c) ∧ lq.length ≤ l.length := by
  unfold spec_PxStep.f impl_PxStep.f impl_Block_40.f
  simp only [(px_both a0 a1 a2 a3 a4 a5 a6 a7 k).1, (px_both a0 a1 a2 a3 a4 a5 a6 a7 k).2, Option.bind_some, spec_blocks l (k + 1) (by omega) (by omega), impl_blocks, firsts2, impl_PxStep.j0]
  by_cases hL : (l.length : Int) > 4096
  · rw [if_pos hL]
    refine ⟨0, 0, 0, 0, 0, 0, 0, 0, [], 2, rfl, ?_, Nat.zero_le _⟩
    cases pxB a0 a1 a2 a3 a4 a5 a6 a7 <;> simp [hL]
  rw [if_neg hL]
  cases hp : pxB a0 a1 a2 a3 a4 a5 a6 a7 with
  | false => exact ⟨0, 0, 0, 0, 0, 0, 0, 0, [], 1, by simp, by simp [hL], Nat.zero_le _⟩
  | true =>
    cases hb : blocksB l with
    | false => exact ⟨0, 0, 0, 0, 0, 0, 0, 0, [], 1, by simp, by simp [hL], Nat.zero_le _⟩
    | true =>
      have h4 : l.length = 4 := by
        unfold blocksB at hb
        simp only [Bool.and_eq_true, decide_eq_true_eq] at hb
        exact hb.1
      obtain ⟨⟨p0, p1⟩, _, ⟨p2, p3⟩, _, _, _, ⟨p5, p6⟩, _⟩ := pxB_bounds hp
      have hc : slices_Clone_Block.f l = some l := by unfold slices_Clone_Block.f; rw [if_pos (by omega)]
      simp only [if_true, Bool.not_true, Bool.false_eq_true, if_false, decide_eq_false hL, hc, Option.bind_some, spec_l05Step.f, impl_Px_ended.f, impl_Px_step.f]
      rw [if_pos ⟨h4, p0, p1, p2, p3, p5, p6⟩]
      by_cases h5 : 5 ≤ a2
      · rw [if_pos h5]
        refine ⟨a0, a1, a2, a3, a4, a5, a6, a7, l, 15, rfl, ?_, Nat.le_refl _⟩
        by_cases h55 : a2 = 5
        · simp [h55]
        · have h6 : a2 = 6 := by omega
          simp [h6]
      · rw [if_neg h5]
        refine ⟨_, _, _, _, _, _, _, _, _, _, rfl, ?_, Nat.le_of_eq (step_length a0 a1 a2 a3 a4 a5 a6 a7 l)⟩
        have h55 : ¬ a2 = 5 := by omega
        have h66 : (a2 == 6) = false := by simp; omega
        rw [if_neg h55, h66]
        simp only [Option.bind_some, Bool.false_eq_true, if_false]
        rw [if_pos ⟨h4, p0, p1, p2, by omega, p5, p6⟩]
        rfl
end Go.Proofs.Ytlclbdfcniiolaa.Pure
