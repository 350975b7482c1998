/- Function values of the program over texts and writes: what they tell of their argument, for every argument. -/
import Derived.Test.YtpgiklbaoikogaaHandIv
import Derived.Test.YtpgiklbaoikogaaHandCs
import Derived.Test.YtpgiklbaoikogaaB1
namespace Go.Proofs.Ytpgiklbaoikogaa.Hand
open Go.RowKit Go.Proofs.YtpgiklbaoikogaaW.PrintWords Go.Proofs.YtpgiklbaoikogaaW.PrintLast Go.Proofs.YtpgiklbaoikogaaW.PrintMore
set_option linter.unusedVariables false
set_option linter.unusedSimpArgs false
def inB (a b c : Int) : Bool := decide (b ≤ a) && decide (a ≤ c)
theorem law_isSector (s : ByteArray) (W : World) : Calls Try.prog 70 #[.string s] W fun e w' => e = .returned (.bool (decide ((s.size : Int) ≤ 80))) ∧ Below W.heap.size W w' := by
  go_enter Try.func70, Try.ntmps70
  go_wp2
  go_ret
  exact ⟨rfl, Below.refl _ _⟩
abbrev fn_isSector : FnV9 := { g := 70, p := fun s => decide ((s.size : Int) ≤ 80), enters := enters_of Try.func70 (by kernel_rfl) rfl, law := law_isSector }
theorem within_eq (a b c : Int) : B.impl_within.f a b c = some (inB a b c) := by
  unfold B.impl_within.f inB
  by_cases h : b ≤ a
  · rw [if_pos h]; simp [h]
  · rw [if_neg h]; simp [h]
set_option maxRecDepth 100000 in
set_option maxHeartbeats 4000000 in
theorem law_DiskOK (a b : Int) (s : ByteArray) (w : World) : Calls Try.prog 72 #[.agg #[.int .i64 a, .int .i64 b, .string s]] w fun e w' => e = .returned (.bool (inB a 0 3 && (inB b 0 63 && decide ((s.size : Int) ≤ 80)))) ∧ Below w.heap.size w w' := by
  have hut := Try.underlying84
  have HB := Aside0.mk (Below.refl w.heap.size w)
  have H1 := Aside0.mk (fun W => B.impl_isHost.calls a (inB a 0 3) W (by unfold B.impl_isHost.f; rw [within_eq]; rfl))
  have H2 := Aside0.mk (fun W => B.impl_isPlace.calls b (inB b 0 63) W (by unfold B.impl_isPlace.f; rw [within_eq]; rfl))
  have H3 := Aside0.mk (fun W => B.impl_isSector.calls s (decide ((s.size : Int) ≤ 80)) W rfl)
  generalize inB a 0 3 = p at H1 ⊢
  generalize inB b 0 63 = q at H2 ⊢
  generalize decide ((s.size : Int) ≤ 80) = t at H3 ⊢
  cases p with
  | false =>
    go_enter Try.func72, Try.ntmps72
    go_wp2_with (first | (go_at_call 73; refine (H1.out _).mono ?_; rintro e w' ⟨rfl, ⟨nd, rfl⟩⟩) | (go_at_call 74; refine (H2.out _).mono ?_; rintro e w' ⟨rfl, ⟨nd, rfl⟩⟩) | (go_at_call 70; refine (H3.out _).mono ?_; rintro e w' ⟨rfl, ⟨nd, rfl⟩⟩))
    go_ret
    exact ⟨rfl, by repeat (first | (with_reducible first | exact HB.out | apply below_alloc | apply pw_below_drewN | apply below_drew1) | exact HB.out)⟩
  | true =>
    cases q with
    | false =>
      go_enter Try.func72, Try.ntmps72
      go_wp2_with (first | (go_at_call 73; refine (H1.out _).mono ?_; rintro e w' ⟨rfl, ⟨nd, rfl⟩⟩) | (go_at_call 74; refine (H2.out _).mono ?_; rintro e w' ⟨rfl, ⟨nd, rfl⟩⟩) | (go_at_call 70; refine (H3.out _).mono ?_; rintro e w' ⟨rfl, ⟨nd, rfl⟩⟩))
      go_ret
      exact ⟨rfl, by repeat (first | (with_reducible first | exact HB.out | apply below_alloc | apply pw_below_drewN | apply below_drew1) | exact HB.out)⟩
    | true =>
      go_enter Try.func72, Try.ntmps72
      go_wp2_with (first | (go_at_call 73; refine (H1.out _).mono ?_; rintro e w' ⟨rfl, ⟨nd, rfl⟩⟩) | (go_at_call 74; refine (H2.out _).mono ?_; rintro e w' ⟨rfl, ⟨nd, rfl⟩⟩) | (go_at_call 70; refine (H3.out _).mono ?_; rintro e w' ⟨rfl, ⟨nd, rfl⟩⟩))
      go_ret
      exact ⟨rfl, by repeat (first | (with_reducible first | exact HB.out | apply below_alloc | apply pw_below_drewN | apply below_drew1) | exact HB.out)⟩
abbrev fn_DiskOK : FnV84 := { g := 72, p := fun a b s => inB a 0 3 && (inB b 0 63 && decide ((s.size : Int) ≤ 80)), enters := enters_of Try.func72 (by kernel_rfl) rfl, law := law_DiskOK }
end Go.Proofs.Ytpgiklbaoikogaa.Hand
