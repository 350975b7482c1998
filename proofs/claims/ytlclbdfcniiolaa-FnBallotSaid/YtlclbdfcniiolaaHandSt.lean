/- The program's step of a ballot: what it comes to and what it writes; for every ballot of a host from 0 to 3, in a phase from 1 to 4, whose next place lies from 0 to 4, and a list of four blocks (elsewhere the function here tells nothing). -/
import Derived.Test.YtlclbdfcniiolaaHandSt1
import Derived.Test.YtlclbdfcniiolaaHandSt2
namespace Go.Proofs.Ytlclbdfcniiolaa.Hand
open Go.RowKit Go.Proofs.YtlclbdfcniiolaaW.PrintWords Go.Proofs.YtlclbdfcniiolaaW.PrintLast Go.Proofs.YtlclbdfcniiolaaW.PrintMore Go.Proofs.Ytlclbdfcniiolaa.Q
set_option linter.unusedVariables false
def impl_Px_step.g (a0_0 a0_1 a0_2 a0_3 a0_4 a0_5 a0_6 a0_7 : Int) (l1 : List S53) : Int × Int × Int × Int × Int × Int × Int × Int × List S53 :=
  if a0_2 = 1 then pxWrite a0_0 a0_1 1 a0_3 a0_4 a0_5 a0_6 a0_7 l1 else if a0_2 = 3 then pxWrite a0_0 a0_1 3 a0_3 a0_4 a0_5 a0_6 a0_7 l1
  else ((pxRead a0_0 a0_1 a0_2 a0_3 a0_4 a0_5 a0_6 a0_7 l1).1, (pxRead a0_0 a0_1 a0_2 a0_3 a0_4 a0_5 a0_6 a0_7 l1).2.1, (pxRead a0_0 a0_1 a0_2 a0_3 a0_4 a0_5 a0_6 a0_7 l1).2.2.1, (pxRead a0_0 a0_1 a0_2 a0_3 a0_4 a0_5 a0_6 a0_7 l1).2.2.2.1, (pxRead a0_0 a0_1 a0_2 a0_3 a0_4 a0_5 a0_6 a0_7 l1).2.2.2.2.1, (pxRead a0_0 a0_1 a0_2 a0_3 a0_4 a0_5 a0_6 a0_7 l1).2.2.2.2.2.1, (pxRead a0_0 a0_1 a0_2 a0_3 a0_4 a0_5 a0_6 a0_7 l1).2.2.2.2.2.2.1, (pxRead a0_0 a0_1 a0_2 a0_3 a0_4 a0_5 a0_6 a0_7 l1).2.2.2.2.2.2.2, l1)
def impl_Px_step.f (a0_0 a0_1 a0_2 a0_3 a0_4 a0_5 a0_6 a0_7 : Int) (l1 : List S53) : Option (Int × Int × Int × Int × Int × Int × Int × Int × List S53) :=
  if l1.length = 4 ∧ 0 ≤ a0_0 ∧ a0_0 < 4 ∧ 1 ≤ a0_2 ∧ a0_2 ≤ 4 ∧ 0 ≤ a0_5 ∧ a0_5 ≤ 4 then some (impl_Px_step.g a0_0 a0_1 a0_2 a0_3 a0_4 a0_5 a0_6 a0_7 l1) else none
set_option maxHeartbeats 2000000 in
theorem impl_Px_step.calls (a0_0 a0_1 a0_2 a0_3 a0_4 a0_5 a0_6 a0_7 : Int) (P1_ : Nat → Prop) (u9000_ : Value) (l1 : List S53) (r1 r2 r3 r4 r5 r6 r7 r8 : Int) (r9 : List S53) (w0 w : World) (hB : Below w0.heap.size w0 w) (ho1 : Kd.R k53 53 w w0.heap.size P1_ u9000_ l1) (h : impl_Px_step.f a0_0 a0_1 a0_2 a0_3 a0_4 a0_5 a0_6 a0_7 l1 = some (r1, r2, r3, r4, r5, r6, r7, r8, r9)) :
    Calls Try.prog 44 #[.agg #[.int .i64 a0_0, .int .i64 a0_1, .int .i64 a0_2, .int .i64 a0_3, .int .i64 a0_4, .int .i64 a0_5, .int .i64 a0_6, .int .i64 a0_7], u9000_] w fun e w' => e = .returned (.agg #[.int .i64 r1, .int .i64 r2, .int .i64 r3, .int .i64 r4, .int .i64 r5, .int .i64 r6, .int .i64 r7, .int .i64 r8]) ∧ Kd.R k53 53 w' w0.heap.size (fun k_ => P1_ k_ ∨ w.heap.size ≤ k_) u9000_ r9 ∧ Below w0.heap.size w0 w' ∧ Kept w w' P1_ := by
  unfold impl_Px_step.f at h
  by_cases c : l1.length = 4 ∧ 0 ≤ a0_0 ∧ a0_0 < 4 ∧ 1 ≤ a0_2 ∧ a0_2 ≤ 4 ∧ 0 ≤ a0_5 ∧ a0_5 ≤ 4
  rotate_left
  · rw [if_neg c] at h; cases h
  rw [if_pos c] at h
  obtain ⟨cl, ch0, ch4, cp1, cp4, cn0, cn4⟩ := c
  obtain ⟨g, cap, rfl, hbg, hgl, hok⟩ := own_form ho1 (by omega)
  have hg := Option.some.inj h
  clear h
  unfold impl_Px_step.g at hg
  rw [cl] at ho1 ⊢
  have four : a0_2 = 1 ∨ a0_2 = 2 ∨ a0_2 = 3 ∨ a0_2 = 4 := by omega
  rcases four with rfl | rfl | rfl | rfl
  · rw [if_pos rfl] at hg
    refine (step_1 _ _ _ _ _ _ _ _ _ _ _ _ _ _ _ _ _ _ _ _ _ w ho1 hok hbg hgl ch0 ch4 hg).mono ?_
    rintro e w' ⟨he, hR, hk, hb⟩
    exact ⟨he, Kd.R_mono hR (fun _ hk => .inl hk), hB.trans hb, hk⟩
  · rw [if_neg (by decide), if_neg (by decide)] at hg
    simp only [Prod.mk.injEq] at hg
    obtain ⟨h1, h2, h3, h4, h5, h6, h7, h8, rfl⟩ := hg
    refine (step_2 _ _ _ _ _ _ _ r1 r2 r3 r4 r5 r6 r7 r8 _ _ _ _ _ w ho1 cn0 cn4 (by rw [← h1, ← h2, ← h3, ← h4, ← h5, ← h6, ← h7, ← h8])).mono ?_
    rintro e w' ⟨he, hb⟩
    exact ⟨he, Kd.R_mono (Kd.R_below ho1 hb) (fun _ hk => .inl hk), hB.trans (hb.mono hB.size), Kept.of_below hb _⟩
  · rw [if_neg (by decide), if_pos rfl] at hg
    refine (step_3 _ _ _ _ _ _ _ _ _ _ _ _ _ _ _ _ _ _ _ _ _ w ho1 hok hbg hgl ch0 ch4 hg).mono ?_
    rintro e w' ⟨he, hR, hk, hb⟩
    exact ⟨he, Kd.R_mono hR (fun _ hk => .inl hk), hB.trans hb, hk⟩
  · rw [if_neg (by decide), if_neg (by decide)] at hg
    simp only [Prod.mk.injEq] at hg
    obtain ⟨h1, h2, h3, h4, h5, h6, h7, h8, rfl⟩ := hg
    refine (step_4 _ _ _ _ _ _ _ r1 r2 r3 r4 r5 r6 r7 r8 _ _ _ _ _ w ho1 cn0 cn4 (by rw [← h1, ← h2, ← h3, ← h4, ← h5, ← h6, ← h7, ← h8])).mono ?_
    rintro e w' ⟨he, hb⟩
    exact ⟨he, Kd.R_mono (Kd.R_below ho1 hb) (fun _ hk => .inl hk), hB.trans (hb.mono hB.size), Kept.of_below hb _⟩
end Go.Proofs.Ytlclbdfcniiolaa.Hand
