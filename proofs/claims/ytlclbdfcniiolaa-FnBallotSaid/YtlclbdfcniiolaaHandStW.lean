/- The reference's writing step: what it makes of a ballot and of its own block; for every ballot and block. -/
import Derived.Test.YtlclbdfcniiolaaQ0
import Derived.BigQuiet
import Derived.BigRegion
namespace Go.Proofs.Ytlclbdfcniiolaa.Hand
open Go.RowKit Go.Proofs.YtlclbdfcniiolaaW.PrintWords Go.Proofs.YtlclbdfcniiolaaW.PrintLast Go.Proofs.YtlclbdfcniiolaaW.PrintMore Go.Proofs.Ytlclbdfcniiolaa.Q
set_option linter.unusedVariables false
set_option linter.unusedSimpArgs false
def spec_l05Write.f (a0_0 a0_1 a0_2 a0_3 a0_4 a0_5 a0_6 a0_7 a1_0 a1_1 a1_2 a1_3 : Int) : Option (Int × Int × Int × Int × Int × Int × Int × Int × Int × Int × Int × Int) :=
  if a0_2 = 1 then some (a0_0, a0_1, 2, a0_3, a0_4, 0, a1_3, a1_2, a0_1, a0_3, a1_2, a1_3) else some (a0_0, a0_1, 4, a0_3, a0_4, 0, a0_6, a0_7, a0_1, a0_3, a0_3, a0_4)
set_option maxRecDepth 100000 in
set_option maxHeartbeats 8000000 in
theorem spec_l05Write.calls (a0_0 a0_1 a0_2 a0_3 a0_4 a0_5 a0_6 a0_7 a1_0 a1_1 a1_2 a1_3 : Int) (r1 r2 r3 r4 r5 r6 r7 r8 r9 r10 r11 r12 : Int) (w : World) (h : spec_l05Write.f a0_0 a0_1 a0_2 a0_3 a0_4 a0_5 a0_6 a0_7 a1_0 a1_1 a1_2 a1_3 = some (r1, r2, r3, r4, r5, r6, r7, r8, r9, r10, r11, r12)) :
    Calls Try.prog 65 #[.agg #[.int .i64 a0_0, .int .i64 a0_1, .int .i64 a0_2, .int .i64 a0_3, .int .i64 a0_4, .int .i64 a0_5, .int .i64 a0_6, .int .i64 a0_7], .agg #[.int .i64 a1_0, .int .i64 a1_1, .int .i64 a1_2, .int .i64 a1_3]] w fun e w' => e = .returned (.tuple #[.agg #[.int .i64 r1, .int .i64 r2, .int .i64 r3, .int .i64 r4, .int .i64 r5, .int .i64 r6, .int .i64 r7, .int .i64 r8], .agg #[.int .i64 r9, .int .i64 r10, .int .i64 r11, .int .i64 r12]]) ∧ Below w.heap.size w w' := by
  have hu53 := Try.underlying53
  have hu26 := Try.underlying26
  unfold spec_l05Write.f at h
  by_cases c : a0_2 = 1
  · rw [if_pos c] at h
    injection h with h
    simp only [Prod.mk.injEq] at h
    obtain ⟨rfl, rfl, rfl, rfl, rfl, rfl, rfl, rfl, rfl, rfl, rfl, rfl⟩ := h
    subst c
    go_enter Try.func65, Try.ntmps65
    go_wp2
    go_region
    go_wp2
    refine bodyPost_ret (v := .tuple #[.agg #[.int .i64 a0_0, .int .i64 a0_1, .int .i64 2, .int .i64 a0_3, .int .i64 a0_4, .int .i64 0, .int .i64 a1_3, .int .i64 a1_2], .agg #[.int .i64 a0_1, .int .i64 a0_3, .int .i64 a1_2, .int .i64 a1_3]]) ?_ rfl ?_
    · simp [results, Try.f65, go_sem]
    · exact ⟨rfl, by repeat (first | (with_reducible first | exact Below.refl _ _ | apply below_alloc | apply pw_below_drewN | apply below_drew1) | exact Below.refl _ _)⟩
  · rw [if_neg c] at h
    injection h with h
    simp only [Prod.mk.injEq] at h
    obtain ⟨rfl, rfl, rfl, rfl, rfl, rfl, rfl, rfl, rfl, rfl, rfl, rfl⟩ := h
    go_enter Try.func65, Try.ntmps65
    go_wp2
    go_region
    go_wp2
    refine bodyPost_ret (v := .tuple #[.agg #[.int .i64 a0_0, .int .i64 a0_1, .int .i64 4, .int .i64 a0_3, .int .i64 a0_4, .int .i64 0, .int .i64 a0_6, .int .i64 a0_7], .agg #[.int .i64 a0_1, .int .i64 a0_3, .int .i64 a0_3, .int .i64 a0_4]]) ?_ rfl ?_
    · simp [results, Try.f65, go_sem]
    · exact ⟨rfl, by repeat (first | (with_reducible first | exact Below.refl _ _ | apply below_alloc | apply pw_below_drewN | apply below_drew1) | exact Below.refl _ _)⟩
end Go.Proofs.Ytlclbdfcniiolaa.Hand
