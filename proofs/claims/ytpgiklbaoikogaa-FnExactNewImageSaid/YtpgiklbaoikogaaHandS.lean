/- The law's marking of snapshots and its looking after them, where they are handed none: they write nothing (elsewhere the function here tells nothing). -/
import Derived.Test.YtpgiklbaoikogaaQ0
namespace Go.Proofs.Ytpgiklbaoikogaa.Hand
open Go.RowKit Go.Proofs.YtpgiklbaoikogaaW.PrintWords Go.Proofs.YtpgiklbaoikogaaW.PrintLast Go.Proofs.YtpgiklbaoikogaaW.PrintMore Go.Proofs.Ytpgiklbaoikogaa.Q
set_option linter.unusedVariables false
set_option linter.unusedSimpArgs false
def laws_markSnapS.f (l0 : List S107) (a1 : Int) : Option Int := if l0.length = 0 then some a1 else none
set_option maxHeartbeats 2000000 in
theorem laws_markSnapS.calls (A0 : Option Addr) (c0 : Nat) (l0 : List S107) (a1 : Int) (r : Int) (w : World) (hr0 : Kd.C k107 w A0 l0.length l0) (hc0 : l0.length ≤ c0) (h : laws_markSnapS.f l0 a1 = some r) :
    Calls Try.prog 61 #[.slice A0 l0.length c0, .int .i64 a1] w fun e w' => e = .returned (.int .i64 r) ∧ Below w.heap.size w w' := by
  unfold laws_markSnapS.f at h
  by_cases hz : l0.length = 0
  · rw [if_pos hz] at h
    obtain rfl := Option.some.inj h
    rw [hz]
    clear h hr0 hc0 hz
    go_enter Try.func61, Try.ntmps61
    go_wp2
    go_loopg [1, 5] 0 (fun _ v1 v5 w' => v1 = .int .i64 a1 ∧ v5 = .int .i64 0 ∧ w' = w)
    case atStart => exact ⟨rfl, rfl, rfl⟩
    case round =>
      obtain ⟨rfl, rfl, rfl⟩ := hrel
      go_wp2
      go_ret
      exact ⟨rfl, Below.refl _ _⟩
  · rw [if_neg hz] at h
    cases h
def laws_heldSnapS.f (l0 : List S107) (a1 : Int) : Option Int := if l0.length = 0 then some a1 else none
set_option maxHeartbeats 2000000 in
theorem laws_heldSnapS.calls (A0 : Option Addr) (c0 : Nat) (l0 : List S107) (a1 : Int) (r : Int) (w : World) (hr0 : Kd.C k107 w A0 l0.length l0) (hc0 : l0.length ≤ c0) (h : laws_heldSnapS.f l0 a1 = some r) :
    Calls Try.prog 63 #[.slice A0 l0.length c0, .int .i64 a1] w fun e w' => e = .returned (.int .i64 r) ∧ Below w.heap.size w w' := by
  unfold laws_heldSnapS.f at h
  by_cases hz : l0.length = 0
  · rw [if_pos hz] at h
    obtain rfl := Option.some.inj h
    rw [hz]
    clear h hr0 hc0 hz
    go_enter Try.func63, Try.ntmps63
    go_wp2
    go_loopg [1, 5] 0 (fun _ v1 v5 w' => v1 = .int .i64 a1 ∧ v5 = .int .i64 0 ∧ w' = w)
    case atStart => exact ⟨rfl, rfl, rfl⟩
    case round =>
      obtain ⟨rfl, rfl, rfl⟩ := hrel
      go_wp2
      go_ret
      exact ⟨rfl, Below.refl _ _⟩
  · rw [if_neg hz] at h
    cases h
end Go.Proofs.Ytpgiklbaoikogaa.Hand
