/- The program's PxStep and the reference's give the same for every ballot and list of at most 1048576 blocks (the law's own guard). -/
import Derived.Test.YtlclbdfcniiolaaRows
import Derived.Test.YtlclbdfcniiolaaHandLp
import Derived.Test.YtlclbdfcniiolaaPureFnExactPxStep
import Derived.Test.YtlclbdfcniiolaaOpen
import Derived.WalkKit
import Derived.ProofKit
import Derived.OpenShut
import Derived.ShutString
import Derived.ChangeOld
import Derived.Below
import Derived.SizedLaws
namespace Go.Proofs.Ytlclbdfcniiolaa.fnExactPxStep
open Go.ChangeShapes Go.WideShapes Go.ChangeAt Go.RowKit Go.Proofs.YtlclbdfcniiolaaW.PrintWords
open Go.ChangeMaps (open_string shut_string)
set_option linter.unusedVariables false
theorem own : ownKnob Try.prog.godebug = none := by kernel_rfl
theorem laidOut : laidOutB Try.prog = true := by kernel_rfl
set_option maxRecDepth 100000 in
theorem lifted (os : Os) (started : os.Started) (H : Type) (enc : TypeId × Value → H) :
    ReturnsInHanded {} Try.checked os 3 .any (Rows.fnExactPxStepSpec.pre6 enc Try.prog Try.f3 Rows.fnExactPxStepRow.domain false) (Rows.fnExactPxStepSpec.post enc Try.prog Try.f3 false true false false) := by
  refine returnsInHanded_of_change_sized (C := Try.checked) own started (by kernel_rfl) Try.func3
    (ChangeSpec.witness6 (enc := enc) (C := Try.checked) false ⟨#[], #[.agg #[.int .i64 0, .int .i64 0, .int .i64 0, .int .i64 0, .int .i64 0, .int .i64 0, .int .i64 0, .int .i64 0], .slice none 0 0], []⟩ 8 (by kernel_rfl) (by kernel_rfl) (by kernel_rfl) (by kernel_rfl)) ?_
  intro W base args ds gs before hval0 hW hcnd hsz0 _
  have hsz : (DataW.weightsEach Try.prog (Try.f3.params.toList ++ Rows.fnExactPxStepSpec.plain.varTypes Try.prog) (ds ++ gs)).all (· ≤ reachBytes) = true := hsz0
  have hval : ∀ (j : Nat) t v, Try.f3.params[j]? = some t → args[j]? = some v → Value.okWide Try.prog W .any base t v := hval0
  have hW' := hW
  obtain ⟨p, q, hA0, hV, rfl, hfz, hnd⟩ := hW
  have hA : DataW.TrodAll enc Try.prog W 0 (fun _ => true) true Try.f3.params.toList args.toList ds p := hA0
  rw [Try.params3] at hA hval hsz
  obtain ⟨v0, vs0, d0, ds0, p0, q0, hargs, rfl, rfl, h0, r0⟩ := trodAll_cons hA
  obtain ⟨v1, vs1, d1, ds1, p1, q1, rfl, rfl, rfl, h1, r1⟩ := trodAll_cons r0
  obtain ⟨rfl, rfl, rfl⟩ := trodAll_nil r1
  obtain rfl : args = #[v0, v1] := by cases args; simp_all
  obtain ⟨rfl, rfl⟩ := trodVars_none hV
  have k0 := h0
  have lt0 : ∀ x ∈ p0, x.block < W.heap.size := by obtain ⟨m, hm⟩ := k0; exact DataW.trod_lt m _ _ _ hm
  obtain ⟨cs0, n0, rfl, hl0, hf0⟩ := Opened.agg_of Try.underlying23 (by kernel_rfl) (by kernel_rfl) (hval 0 23 v0 rfl rfl) h0
  obtain ⟨c0_0, c0_1, c0_2, c0_3, c0_4, c0_5, c0_6, c0_7, rfl⟩ := Opened.len8 (hl0.trans (rfl : _ = 8))
  obtain ⟨a0_0, rfl, w0_0⟩ := Opened.int_of Try.underlying3 (hf0 0 _ c0_0 rfl rfl)
  obtain ⟨a0_1, rfl, w0_1⟩ := Opened.int_of Try.underlying3 (hf0 1 _ c0_1 rfl rfl)
  obtain ⟨a0_2, rfl, w0_2⟩ := Opened.int_of Try.underlying3 (hf0 2 _ c0_2 rfl rfl)
  obtain ⟨a0_3, rfl, w0_3⟩ := Opened.int_of Try.underlying3 (hf0 3 _ c0_3 rfl rfl)
  obtain ⟨a0_4, rfl, w0_4⟩ := Opened.int_of Try.underlying3 (hf0 4 _ c0_4 rfl rfl)
  obtain ⟨a0_5, rfl, w0_5⟩ := Opened.int_of Try.underlying3 (hf0 5 _ c0_5 rfl rfl)
  obtain ⟨a0_6, rfl, w0_6⟩ := Opened.int_of Try.underlying3 (hf0 6 _ c0_6 rfl rfl)
  obtain ⟨a0_7, rfl, w0_7⟩ := Opened.int_of Try.underlying3 (hf0 7 _ c0_7 rfl rfl)
  obtain ⟨A1, len1, cap1, rfl⟩ := okWide_slice Try.underlying24 (hval 1 24 v1 rfl rfl)
  have k1 := h1
  have lt1 : ∀ x ∈ p1, x.block < W.heap.size := by obtain ⟨m, hm⟩ := k1; exact DataW.trod_lt m _ _ _ hm
  obtain ⟨fuel1, hf1⟩ := h1
  obtain ⟨l1, rfl, hc1, hm1, hr1, hw1⟩ := Opened.slice_C (w := W) Q.k59 (fun x : Q.S59 => (Lit.int .i64 x.f0).wf = true ∧ (Lit.int .i64 x.f1).wf = true ∧ (Lit.int .i64 x.f2).wf = true ∧ (Lit.int .i64 x.f3).wf = true) (A := A1) (len := len1) (cap := cap1) Try.underlying24 (by kernel_rfl) (fun cs n y hy => by
    obtain ⟨hl, n', hf⟩ := Opened.fields_of Try.underlying59 (by kernel_rfl) (by kernel_rfl) hy
    obtain ⟨c0, c1, c2, c3, rfl⟩ := Opened.len4 (hl.trans (rfl : _ = 4))
    obtain ⟨x0, rfl, w0⟩ := Opened.int_of Try.underlying3 (hf 0 _ c0 rfl rfl)
    obtain ⟨x1, rfl, w1⟩ := Opened.int_of Try.underlying3 (hf 1 _ c1 rfl rfl)
    obtain ⟨x2, rfl, w2⟩ := Opened.int_of Try.underlying3 (hf 2 _ c2 rfl rfl)
    obtain ⟨x3, rfl, w3⟩ := Opened.int_of Try.underlying3 (hf 3 _ c3 rfl rfl)
    exact ⟨⟨x0, x1, x2, x3⟩, Q.k59_mk _ ⟨x0, x1, x2, x3⟩, ⟨w0, w1, w2, w3⟩⟩) (by simpa [Value.cells] using hf1)
  clear hA0 hval0 hsz0 hsz
  obtain ⟨k, hk⟩ := Pure.FnExactPxStep a0_0 a0_1 a0_2 a0_3 a0_4 a0_5 a0_6 a0_7 l1 w0_0 w0_1 w0_2 w0_3 w0_4 w0_5 w0_6 w0_7 hm1 hw1
  refine (Hand.laws_FnExactPxStep.calls k a0_0 a0_1 a0_2 a0_3 a0_4 a0_5 a0_6 a0_7 _ _ l1 true W hr1 hc1 hk).mono fun e W' ⟨he, bel0⟩ => ?_
  have bel : Below W.heap.size W W' := bel0
  subst he
  exact ⟨_, rfl, _, _, _, [], _, [], hW', trodAll_mk1 (shut_bool Try.underlying4 _), (trodAll_cons_mk (Below.trod laidOut (by kernel_rfl) (of_decide_eq_true (by kernel_rfl)) k0 bel lt0) (trodAll_cons_mk (Below.trod laidOut (by kernel_rfl) (of_decide_eq_true (by kernel_rfl)) k1 bel lt1) trodAll_mk0)), rfl, bel.frame _, fun h => by cases h⟩
theorem over : Rows.fnExactPxStepRow.holds Try.pinned (OpenSpec.ofChange Rows.fnExactPxStepSpec) :=
  OpenClaim.holds_of_wide 3 Try.f3 rfl rfl rfl rfl rfl rfl rfl ⟨rfl, rfl, rfl, rfl, rfl⟩ rfl rfl rfl rfl rfl (by kernel_rfl) Try.func3 (by kernel_rfl)
    (of_decide_eq_true (by kernel_rfl)) (by unfold Func.isWrapper; first | (rw [if_pos (by decide +kernel)]; kernel_rfl) | (rw [if_neg (by decide +kernel)]; exact ⟨rfl, rfl⟩))
    (fun os started H enc _ => lifted os started H enc)
theorem proved : Rows.FnExactPxStepSaid := over
#print axioms proved
end Go.Proofs.Ytlclbdfcniiolaa.fnExactPxStep
namespace Go.Proofs.Ytlclbdfcniiolaa
/-- The row, under a short name, for the claim. -/
theorem fnExactPxStep_holds : Rows.FnExactPxStepSaid := fnExactPxStep.proved
end Go.Proofs.Ytlclbdfcniiolaa
