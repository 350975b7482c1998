/- The reference's step of a ballot: what it comes to; for every ballot of a host from 0 to 3, in a phase from 1 to 6, whose next place lies from 0 to 4, and a list of four blocks (elsewhere the function here tells nothing). -/
import Derived.Test.YtlclbdfcniiolaaHandSs1
import Derived.Test.YtlclbdfcniiolaaHandSs2
import Derived.Test.YtlclbdfcniiolaaHandSt
namespace Go.Proofs.Ytlclbdfcniiolaa.Hand
open Go.RowKit Go.Proofs.YtlclbdfcniiolaaW.PrintWords Go.Proofs.YtlclbdfcniiolaaW.PrintLast Go.Proofs.YtlclbdfcniiolaaW.PrintMore Go.Proofs.Ytlclbdfcniiolaa.Q
set_option linter.unusedVariables false
def spec_l05Step.f (a0_0 a0_1 a0_2 a0_3 a0_4 a0_5 a0_6 a0_7 : Int) (l1 : List S53) : Option (Int × Int × Int × Int × Int × Int × Int × Int × List S53 × Int) :=
  if l1.length = 4 ∧ 0 ≤ a0_0 ∧ a0_0 < 4 ∧ 1 ≤ a0_2 ∧ a0_2 ≤ 6 ∧ 0 ≤ a0_5 ∧ a0_5 ≤ 4 then
    (if 5 ≤ a0_2 then some (a0_0, a0_1, a0_2, a0_3, a0_4, a0_5, a0_6, a0_7, l1, 15) else some ((impl_Px_step.g a0_0 a0_1 a0_2 a0_3 a0_4 a0_5 a0_6 a0_7 l1).1, (impl_Px_step.g a0_0 a0_1 a0_2 a0_3 a0_4 a0_5 a0_6 a0_7 l1).2.1, (impl_Px_step.g a0_0 a0_1 a0_2 a0_3 a0_4 a0_5 a0_6 a0_7 l1).2.2.1, (impl_Px_step.g a0_0 a0_1 a0_2 a0_3 a0_4 a0_5 a0_6 a0_7 l1).2.2.2.1, (impl_Px_step.g a0_0 a0_1 a0_2 a0_3 a0_4 a0_5 a0_6 a0_7 l1).2.2.2.2.1, (impl_Px_step.g a0_0 a0_1 a0_2 a0_3 a0_4 a0_5 a0_6 a0_7 l1).2.2.2.2.2.1, (impl_Px_step.g a0_0 a0_1 a0_2 a0_3 a0_4 a0_5 a0_6 a0_7 l1).2.2.2.2.2.2.1, (impl_Px_step.g a0_0 a0_1 a0_2 a0_3 a0_4 a0_5 a0_6 a0_7 l1).2.2.2.2.2.2.2.1, (impl_Px_step.g a0_0 a0_1 a0_2 a0_3 a0_4 a0_5 a0_6 a0_7 l1).2.2.2.2.2.2.2.2, 0)) else none
set_option maxHeartbeats 2000000 in
theorem spec_l05Step.calls (a0_0 a0_1 a0_2 a0_3 a0_4 a0_5 a0_6 a0_7 : Int) (A1 : Option Addr) (c1 : Nat) (l1 : List S53) (r1 r2 r3 r4 r5 r6 r7 r8 : Int) (r9 : List S53) (r10 : Int) (w : World) (hr1 : Kd.C k53 w A1 l1.length l1) (hc1 : l1.length ≤ c1) (h : spec_l05Step.f a0_0 a0_1 a0_2 a0_3 a0_4 a0_5 a0_6 a0_7 l1 = some (r1, r2, r3, r4, r5, r6, r7, r8, r9, r10)) :
    Calls Try.prog 37 #[.agg #[.int .i64 a0_0, .int .i64 a0_1, .int .i64 a0_2, .int .i64 a0_3, .int .i64 a0_4, .int .i64 a0_5, .int .i64 a0_6, .int .i64 a0_7], .slice A1 l1.length c1] w fun e w' => ∃ v8_ : Value, e = .returned (.tuple #[.agg #[.int .i64 r1, .int .i64 r2, .int .i64 r3, .int .i64 r4, .int .i64 r5, .int .i64 r6, .int .i64 r7, .int .i64 r8], v8_, .int .i64 r10]) ∧ Kd.R k53 53 w' w.heap.size (fun _ => True) v8_ r9 ∧ Below w.heap.size w w' := by
  unfold spec_l05Step.f at h
  by_cases c : l1.length = 4 ∧ 0 ≤ a0_0 ∧ a0_0 < 4 ∧ 1 ≤ a0_2 ∧ a0_2 ≤ 6 ∧ 0 ≤ a0_5 ∧ a0_5 ≤ 4
  rotate_left
  · rw [if_neg c] at h; cases h
  rw [if_pos c] at h
  obtain ⟨cl, ch0, ch4, cp1, cp6, cn0, cn4⟩ := c
  rw [cl] at hr1 ⊢
  have six : a0_2 = 1 ∨ a0_2 = 2 ∨ a0_2 = 3 ∨ a0_2 = 4 ∨ a0_2 = 5 ∨ a0_2 = 6 := by omega
  rcases six with rfl | rfl | rfl | rfl | rfl | rfl
  · rw [if_neg (by decide)] at h
    have h := Option.some.inj h
    simp only [Prod.mk.injEq] at h
    obtain ⟨h1, h2, h3, h4, h5, h6, h7, h8, h9, rfl⟩ := h
    refine lst_1 _ _ _ _ _ _ _ r1 r2 r3 r4 r5 r6 r7 r8 r9 A1 c1 l1 w hr1 cl ch0 ch4 cn0 cn4 ?_
    rw [← h1, ← h2, ← h3, ← h4, ← h5, ← h6, ← h7, ← h8, ← h9]
    unfold impl_Px_step.g
    rfl
  · rw [if_neg (by decide)] at h
    have h := Option.some.inj h
    simp only [Prod.mk.injEq] at h
    obtain ⟨h1, h2, h3, h4, h5, h6, h7, h8, h9, rfl⟩ := h
    refine lst_2 _ _ _ _ _ _ _ r1 r2 r3 r4 r5 r6 r7 r8 r9 A1 c1 l1 w hr1 cl ch0 ch4 cn0 cn4 ?_
    rw [← h1, ← h2, ← h3, ← h4, ← h5, ← h6, ← h7, ← h8, ← h9]
    unfold impl_Px_step.g
    rfl
  · rw [if_neg (by decide)] at h
    have h := Option.some.inj h
    simp only [Prod.mk.injEq] at h
    obtain ⟨h1, h2, h3, h4, h5, h6, h7, h8, h9, rfl⟩ := h
    refine lst_3 _ _ _ _ _ _ _ r1 r2 r3 r4 r5 r6 r7 r8 r9 A1 c1 l1 w hr1 cl ch0 ch4 cn0 cn4 ?_
    rw [← h1, ← h2, ← h3, ← h4, ← h5, ← h6, ← h7, ← h8, ← h9]
    unfold impl_Px_step.g
    rfl
  · rw [if_neg (by decide)] at h
    have h := Option.some.inj h
    simp only [Prod.mk.injEq] at h
    obtain ⟨h1, h2, h3, h4, h5, h6, h7, h8, h9, rfl⟩ := h
    refine lst_4 _ _ _ _ _ _ _ r1 r2 r3 r4 r5 r6 r7 r8 r9 A1 c1 l1 w hr1 cl ch0 ch4 cn0 cn4 ?_
    rw [← h1, ← h2, ← h3, ← h4, ← h5, ← h6, ← h7, ← h8, ← h9]
    unfold impl_Px_step.g
    rfl
  · rw [if_pos (by decide)] at h
    have h := Option.some.inj h
    simp only [Prod.mk.injEq] at h
    obtain ⟨rfl, rfl, rfl, rfl, rfl, rfl, rfl, rfl, rfl, rfl⟩ := h
    exact lst_5 _ _ _ _ _ _ _ _ _ _ _ _ _ _ _ _ A1 c1 _ w hr1 cl ch0 ch4 cn0 cn4 rfl
  · rw [if_pos (by decide)] at h
    have h := Option.some.inj h
    simp only [Prod.mk.injEq] at h
    obtain ⟨rfl, rfl, rfl, rfl, rfl, rfl, rfl, rfl, rfl, rfl⟩ := h
    exact lst_6 _ _ _ _ _ _ _ _ _ _ _ _ _ _ _ _ A1 c1 _ w hr1 cl ch0 ch4 cn0 cn4 rfl
end Go.Proofs.Ytlclbdfcniiolaa.Hand
