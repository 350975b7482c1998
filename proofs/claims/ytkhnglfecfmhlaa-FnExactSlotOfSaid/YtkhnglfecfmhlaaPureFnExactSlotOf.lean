/- The program's SlotOf and the reference's give the same for every host. No condition. -/
import Derived.Test.YtkhnglfecfmhlaaPFnExactSlotOfx1
namespace Go.Proofs.Ytkhnglfecfmhlaa.Pure
open Go.RowKit Go.Proofs.Ytkhnglfecfmhlaa.PFnExactSlotOf Go.Proofs.YtkhnglfecfmhlaaW.PrintWords Go.Proofs.YtkhnglfecfmhlaaW.PrintLast

theorem slot_some (a0 : Int) : ∃ r, spec_SlotOf.f a0 = some r := by
  unfold spec_SlotOf.f spec_l04Host.f spec_l01In.f spec_l07Slot.f
  by_cases h0 : (0 : Int) ≤ a0
  · rw [if_pos h0]
    simp only [Option.bind_some]
    split <;> exact ⟨_, rfl⟩
  · rw [if_neg h0]
    simp only [Option.bind_some]
    split <;> exact ⟨_, rfl⟩

theorem FnExactSlotOf : laws_FnExactSlotOf.Pure := by
  intro a0 _
  obtain ⟨r, h1⟩ := slot_some a0
  have h2 : impl_SlotOf.f a0 = some r := h1
  unfold laws_FnExactSlotOf.f
  rw [h1, h2]
  simp only [Option.bind_some, if_true]

end Go.Proofs.Ytkhnglfecfmhlaa.Pure
