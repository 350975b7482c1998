/- The program's NewDisk and the reference's give the same, and what is given owns its memory. No condition. -/
import Derived.Test.YtpgiklbaoikogaaQ5
import Derived.Test.YtpgiklbaoikogaaMarkStr
set_option linter.unusedSimpArgs false
set_option linter.unusedVariables false
namespace Go.Proofs.Ytpgiklbaoikogaa.Pure
open Go.RowKit Go.Proofs.Ytpgiklbaoikogaa.Q Go.Proofs.Ytpgiklbaoikogaa.Hand Go.Proofs.YtpgiklbaoikogaaW.PrintWords Go.Proofs.YtpgiklbaoikogaaW.PrintLast Go.Proofs.YtpgiklbaoikogaaW.PrintMore
theorem FnExactNewDisk : ∃ k, laws_FnExactNewDisk.f k = some true := by
  refine ⟨2000000, ?_⟩
  have hl : (List.replicate 64 (⟨#[]⟩ : ByteArray)).length = 64 := List.length_replicate
  have e0 : laws_eqDisk.f 2000000 (List.replicate 64 (⟨#[]⟩ : ByteArray)) [] (List.replicate 64 (⟨#[]⟩ : ByteArray)) [] = some true := eqDisk_self _ _ 2000000 (by omega) (by simp) (by omega)
  have e1 : laws_markDisk.f 2000000 (List.replicate 64 (⟨#[]⟩ : ByteArray)) [] 1 = some (65, marksS 1 64, []) := by
    unfold laws_markDisk.f
    rw [markS_eq _ 1 (by omega) (by omega) 2000000 (by omega) (by omega), hl]
    rfl
  have e2 : laws_heldDisk.f 2000000 (marksS 1 64) [] 1 = some 65 := by
    unfold laws_heldDisk.f
    rw [heldS_eq 1 (by omega) (by omega) 64 2000000 (by omega) (by omega)]
    rfl
  unfold laws_FnExactNewDisk.f spec_NewDisk.f spec_l01New.f impl_NewDisk.f
  simp only [Option.bind_some, e0, e1, e2, if_true]
  rfl
end Go.Proofs.Ytpgiklbaoikogaa.Pure
