/- The law FnExactPxOK holds: the program's PxOK and the reference's answer alike for every ballot. No condition. -/
import Derived.Test.YtbdbkdfigolggaaRows
import Derived.Test.YtbdbkdfigolggaaPFnExactPxOKx1
import Derived.Test.YtbdbkdfigolggaaPureFnExactPxOK
import Derived.Test.YtbdbkdfigolggaaOpen
import Derived.WalkKit
import Derived.ProofKit
import Derived.OpenShut
import Derived.ShutString
import Derived.ChangeOld
import Derived.Below
import Derived.SizedLaws
namespace Go.Proofs.Ytbdbkdfigolggaa.fnExactPxOK
open Go.ChangeShapes Go.WideShapes Go.ChangeAt Go.RowKit Go.Proofs.YtbdbkdfigolggaaW.PrintWords
open Go.ChangeMaps (open_string shut_string)
set_option linter.unusedVariables false
theorem own : ownKnob Try.prog.godebug = none := by kernel_rfl
theorem laidOut : laidOutB Try.prog = true := by kernel_rfl
set_option maxRecDepth 100000 in
theorem lifted (os : Os) (started : os.Started) (H : Type) (enc : TypeId × Value → H) :
    ReturnsInHanded {} Try.checked os 3 .any (Rows.fnExactPxOKSpec.pre6 enc Try.prog Try.f3 Rows.fnExactPxOKRow.domain false) (Rows.fnExactPxOKSpec.post enc Try.prog Try.f3 false true false false) := by
  refine returnsInHanded_of_change_sized (C := Try.checked) own started (by kernel_rfl) Try.func3
    (ChangeSpec.witness6 (enc := enc) (C := Try.checked) false ⟨#[], #[.agg #[.int .i64 0, .int .i64 0, .int .i64 0, .int .i64 0, .int .i64 0, .int .i64 0, .int .i64 0, .int .i64 0]], []⟩ 8 (by kernel_rfl) (by kernel_rfl) (by kernel_rfl) (by kernel_rfl)) ?_
  intro W base args ds gs before hval0 hW hcnd hsz0 _
  have hsz : (DataW.weightsEach Try.prog (Try.f3.params.toList ++ Rows.fnExactPxOKSpec.plain.varTypes Try.prog) (ds ++ gs)).all (· ≤ reachBytes) = true := hsz0
  have hval : ∀ (j : Nat) t v, Try.f3.params[j]? = some t → args[j]? = some v → Value.okWide Try.prog W .any base t v := hval0
  have hW' := hW
  obtain ⟨p, q, hA0, hV, rfl, hfz, hnd⟩ := hW
  have hA : DataW.TrodAll enc Try.prog W 0 (fun _ => true) true Try.f3.params.toList args.toList ds p := hA0
  rw [Try.params3] at hA hval hsz
  obtain ⟨v0, vs0, d0, ds0, p0, q0, hargs, rfl, rfl, h0, r0⟩ := trodAll_cons hA
  obtain ⟨rfl, rfl, rfl⟩ := trodAll_nil r0
  obtain rfl : args = #[v0] := by cases args; simp_all
  obtain ⟨rfl, rfl⟩ := trodVars_none hV
  have k0 := h0
  have lt0 : ∀ x ∈ p0, x.block < W.heap.size := by obtain ⟨m, hm⟩ := k0; exact DataW.trod_lt m _ _ _ hm
  obtain ⟨cs0, n0, rfl, hl0, hf0⟩ := Opened.agg_of Try.underlying23 (by kernel_rfl) (by kernel_rfl) (hval 0 23 v0 rfl rfl) h0
  obtain ⟨c0_0, c0_1, c0_2, c0_3, c0_4, c0_5, c0_6, c0_7, rfl⟩ := Opened.len8 (hl0.trans (rfl : _ = 8))
  obtain ⟨a0_0, rfl, w0_0⟩ := Opened.int_of Try.underlying3 (hf0 0 _ c0_0 rfl rfl)
  obtain ⟨a0_1, rfl, w0_1⟩ := Opened.int_of Try.underlying3 (hf0 1 _ c0_1 rfl rfl)
  obtain ⟨a0_2, rfl, w0_2⟩ := Opened.int_of Try.underlying3 (hf0 2 _ c0_2 rfl rfl)
  obtain ⟨a0_3, rfl, w0_3⟩ := Opened.int_of Try.underlying3 (hf0 3 _ c0_3 rfl rfl)
  obtain ⟨a0_4, rfl, w0_4⟩ := Opened.int_of Try.underlying3 (hf0 4 _ c0_4 rfl rfl)
  obtain ⟨a0_5, rfl, w0_5⟩ := Opened.int_of Try.underlying3 (hf0 5 _ c0_5 rfl rfl)
  obtain ⟨a0_6, rfl, w0_6⟩ := Opened.int_of Try.underlying3 (hf0 6 _ c0_6 rfl rfl)
  obtain ⟨a0_7, rfl, w0_7⟩ := Opened.int_of Try.underlying3 (hf0 7 _ c0_7 rfl rfl)
  clear hA0 hval0 hsz0 hsz
  obtain ⟨k, hk⟩ := Pure.FnExactPxOK a0_0 a0_1 a0_2 a0_3 a0_4 a0_5 a0_6 a0_7 w0_0 w0_1 w0_2 w0_3 w0_4 w0_5 w0_6 w0_7
  refine (PFnExactPxOK.laws_FnExactPxOK.calls k a0_0 a0_1 a0_2 a0_3 a0_4 a0_5 a0_6 a0_7 true W  hk).mono fun e W' ⟨he, bel0⟩ => ?_
  have bel : Below W.heap.size W W' := bel0
  subst he
  exact ⟨_, rfl, _, _, _, [], _, [], hW', trodAll_mk1 (shut_bool Try.underlying4 _), (trodAll_cons_mk (Below.trod laidOut (by kernel_rfl) (of_decide_eq_true (by kernel_rfl)) k0 bel lt0) trodAll_mk0), rfl, bel.frame _, fun h => by cases h⟩
theorem over : Rows.fnExactPxOKRow.holds Try.pinned (OpenSpec.ofChange Rows.fnExactPxOKSpec) :=
  OpenClaim.holds_of_wide 3 Try.f3 rfl rfl rfl rfl rfl rfl rfl ⟨rfl, rfl, rfl, rfl, rfl⟩ rfl rfl rfl rfl rfl (by kernel_rfl) Try.func3 (by kernel_rfl)
    (of_decide_eq_true (by kernel_rfl)) (by unfold Func.isWrapper; first | (rw [if_pos (by decide +kernel)]; kernel_rfl) | (rw [if_neg (by decide +kernel)]; exact ⟨rfl, rfl⟩))
    (fun os started H enc _ => lifted os started H enc)
theorem proved : Rows.FnExactPxOKSaid := over
#print axioms proved
end Go.Proofs.Ytbdbkdfigolggaa.fnExactPxOK
namespace Go.Proofs.Ytbdbkdfigolggaa
/-- The row, under a short name, for the claim. -/
theorem fnExactPxOK_holds : Rows.FnExactPxOKSaid := fnExactPxOK.proved
end Go.Proofs.Ytbdbkdfigolggaa
