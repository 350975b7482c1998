/- The program's ReadSector and the reference's give the same for every disk that the law's own guard lets pass, every host and place. -/
import Derived.Test.YtpgiklbaoikogaaRows
import Derived.Test.YtpgiklbaoikogaaQ2
import Derived.Test.YtpgiklbaoikogaaPureFnExactReadSector
import Derived.Test.YtpgiklbaoikogaaOpen
import Derived.WalkKit
import Derived.ProofKit
import Derived.OpenShut
import Derived.ShutString
import Derived.ChangeOld
import Derived.Below
import Derived.SizedLaws
namespace Go.Proofs.Ytpgiklbaoikogaa.fnExactReadSector
open Go.ChangeShapes Go.WideShapes Go.ChangeAt Go.RowKit Go.Proofs.YtpgiklbaoikogaaW.PrintWords
open Go.ChangeMaps (open_string shut_string)
set_option linter.unusedVariables false
theorem own : ownKnob Try.prog.godebug = none := by kernel_rfl
theorem laidOut : laidOutB Try.prog = true := by kernel_rfl
set_option maxRecDepth 100000 in
theorem lifted (os : Os) (started : os.Started) (H : Type) (enc : TypeId × Value → H) :
    ReturnsInHanded {} Try.checked os 9 .any (Rows.fnExactReadSectorSpec.pre6 enc Try.prog Try.f9 Rows.fnExactReadSectorRow.domain false) (Rows.fnExactReadSectorSpec.post enc Try.prog Try.f9 false true false false) := by
  refine returnsInHanded_of_change_sized (C := Try.checked) own started (by kernel_rfl) Try.func9
    (ChangeSpec.witness6 (enc := enc) (C := Try.checked) false ⟨#[], #[.agg #[.slice none 0 0, .slice none 0 0], .int .i64 0, .int .i64 0], []⟩ 8 (by kernel_rfl) (by kernel_rfl) (by kernel_rfl) (by kernel_rfl)) ?_
  intro W base args ds gs before hval0 hW hcnd hsz0 _
  have hsz : (DataW.weightsEach Try.prog (Try.f9.params.toList ++ Rows.fnExactReadSectorSpec.plain.varTypes Try.prog) (ds ++ gs)).all (· ≤ reachBytes) = true := hsz0
  have hval : ∀ (j : Nat) t v, Try.f9.params[j]? = some t → args[j]? = some v → Value.okWide Try.prog W .any base t v := hval0
  have hW' := hW
  obtain ⟨p, q, hA0, hV, rfl, hfz, hnd⟩ := hW
  have hA : DataW.TrodAll enc Try.prog W 0 (fun _ => true) true Try.f9.params.toList args.toList ds p := hA0
  rw [Try.params9] at hA hval hsz
  obtain ⟨v0, vs0, d0, ds0, p0, q0, hargs, rfl, rfl, h0, r0⟩ := trodAll_cons hA
  obtain ⟨v1, vs1, d1, ds1, p1, q1, rfl, rfl, rfl, h1, r1⟩ := trodAll_cons r0
  obtain ⟨v2, vs2, d2, ds2, p2, q2, rfl, rfl, rfl, h2, r2⟩ := trodAll_cons r1
  obtain ⟨rfl, rfl, rfl⟩ := trodAll_nil r2
  obtain rfl : args = #[v0, v1, v2] := by cases args; simp_all
  obtain ⟨rfl, rfl⟩ := trodVars_none hV
  have k0 := h0
  have lt0 : ∀ x ∈ p0, x.block < W.heap.size := by obtain ⟨m, hm⟩ := k0; exact DataW.trod_lt m _ _ _ hm
  obtain ⟨cs0, n0, rfl, hl0, hf0⟩ := Opened.agg_of Try.underlying52 (by kernel_rfl) (by kernel_rfl) (hval 0 52 v0 rfl rfl) h0
  obtain ⟨c0_0, c0_1, rfl⟩ := Opened.len2 (hl0.trans (rfl : _ = 2))
  obtain ⟨A0_0, len0_0, cap0_0, rfl⟩ : ∃ A l c, c0_0 = .slice A l c := by
    obtain ⟨y, hy⟩ := hf0 0 _ c0_0 rfl rfl
    rcases Go.Deep.open_slice Try.underlying22 hy with ⟨e, _⟩ | ⟨a, l, c, m, n, D, Pl, e, _⟩
    · exact ⟨_, _, _, by simpa using e⟩
    · exact ⟨_, _, _, by simpa using e⟩
  obtain ⟨y0_0, hy0_0⟩ := hf0 0 _ _ rfl rfl
  obtain ⟨l0_0, rfl, hc0_0, hm0_0, hr0_0, hw0_0⟩ := Opened.slice_C (w := W) Kd.string (fun x : ByteArray => x.size ≤ maxLen) (A := A0_0) (len := len0_0) (cap := cap0_0) Try.underlying22 (by kernel_rfl) (fun cs n y hy => by obtain ⟨s, e, _, sz⟩ := DataW.trod_string Try.underlying9 hy; subst e; exact ⟨s, rfl, sz⟩) hy0_0
  obtain ⟨A0_1, len0_1, cap0_1, rfl⟩ : ∃ A l c, c0_1 = .slice A l c := by
    obtain ⟨y, hy⟩ := hf0 1 _ c0_1 rfl rfl
    rcases Go.Deep.open_slice Try.underlying50 hy with ⟨e, _⟩ | ⟨a, l, c, m, n, D, Pl, e, _⟩
    · exact ⟨_, _, _, by simpa using e⟩
    · exact ⟨_, _, _, by simpa using e⟩
  obtain ⟨y0_1, hy0_1⟩ := hf0 1 _ _ rfl rfl
  obtain ⟨l0_1, rfl, hc0_1, hm0_1, hr0_1, hw0_1⟩ := Opened.slice_C (w := W) Q.k109 (fun x : Q.S109 => (Lit.int .i64 x.f0).wf = true ∧ (Lit.int .i64 x.f1).wf = true ∧ x.f2.size ≤ maxLen) (A := A0_1) (len := len0_1) (cap := cap0_1) Try.underlying50 (by kernel_rfl) (fun cs n y hy => by
    obtain ⟨hl, n', hf⟩ := Opened.fields_of Try.underlying109 (by kernel_rfl) (by kernel_rfl) hy
    obtain ⟨c0, c1, c2, rfl⟩ := Opened.len3 (hl.trans (rfl : _ = 3))
    obtain ⟨x0, rfl, w0⟩ := Opened.int_of Try.underlying3 (hf 0 _ c0 rfl rfl)
    obtain ⟨x1, rfl, w1⟩ := Opened.int_of Try.underlying3 (hf 1 _ c1 rfl rfl)
    obtain ⟨x2, rfl, w2⟩ := Opened.string_of Try.underlying9 (hf 2 _ c2 rfl rfl)
    exact ⟨⟨x0, x1, x2⟩, Q.k109_mk _ ⟨x0, x1, x2⟩, ⟨w0, w1, w2⟩⟩) hy0_1
  obtain ⟨a1, rfl, rfl, rfl, w1⟩ := open_int Try.underlying3 (hval 1 3 v1 rfl rfl) h1
  obtain ⟨a2, rfl, rfl, rfl, w2⟩ := open_int Try.underlying3 (hval 2 3 v2 rfl rfl) h2
  clear hA0 hval0 hsz0 hsz
  obtain ⟨k, hk⟩ := Pure.FnExactReadSector l0_0 l0_1 a1 a2 hm0_0 hw0_0 hm0_1 hw0_1 w1 w2
  refine (Q.laws_FnExactReadSector.calls k _ _ l0_0 _ _ l0_1 a1 a2 true W hr0_0 hc0_0 hr0_1 hc0_1 hk).mono fun e W' ⟨he, bel0⟩ => ?_
  have bel : Below W.heap.size W W' := bel0
  subst he
  exact ⟨_, rfl, _, _, _, [], _, [], hW', trodAll_mk1 (shut_bool Try.underlying4 _), (trodAll_cons_mk (Below.trod laidOut (by kernel_rfl) (of_decide_eq_true (by kernel_rfl)) k0 bel lt0) (trodAll_cons_mk (shut_int Try.underlying3 w1) (trodAll_cons_mk (shut_int Try.underlying3 w2) trodAll_mk0))), rfl, bel.frame _, fun h => by cases h⟩
theorem over : Rows.fnExactReadSectorRow.holds Try.pinned (OpenSpec.ofChange Rows.fnExactReadSectorSpec) :=
  OpenClaim.holds_of_wide 9 Try.f9 rfl rfl rfl rfl rfl rfl rfl ⟨rfl, rfl, rfl, rfl, rfl⟩ rfl rfl rfl rfl rfl (by kernel_rfl) Try.func9 (by kernel_rfl)
    (of_decide_eq_true (by kernel_rfl)) (by unfold Func.isWrapper; first | (rw [if_pos (by decide +kernel)]; kernel_rfl) | (rw [if_neg (by decide +kernel)]; exact ⟨rfl, rfl⟩))
    (fun os started H enc _ => lifted os started H enc)
theorem proved : Rows.FnExactReadSectorSaid := over
#print axioms proved
end Go.Proofs.Ytpgiklbaoikogaa.fnExactReadSector
namespace Go.Proofs.Ytpgiklbaoikogaa
/-- The row, under a short name, for the claim. -/
theorem fnExactReadSector_holds : Rows.FnExactReadSectorSaid := fnExactReadSector.proved
end Go.Proofs.Ytpgiklbaoikogaa
