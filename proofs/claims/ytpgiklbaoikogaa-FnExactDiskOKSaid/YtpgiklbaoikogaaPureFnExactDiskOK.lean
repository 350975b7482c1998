/- The program's DiskOK and the reference's answer alike for every disk that the law's own guard lets pass. -/
import Derived.Test.YtpgiklbaoikogaaQ3
import Derived.Test.YtpgiklbaoikogaaDiskSz
import Derived.Test.YtpgiklbaoikogaaDiskOK
set_option linter.unusedSimpArgs false
set_option linter.unusedVariables false
namespace Go.Proofs.Ytpgiklbaoikogaa.Pure
open Go.RowKit Go.Proofs.Ytpgiklbaoikogaa.Q Go.Proofs.Ytpgiklbaoikogaa.Hand Go.Proofs.YtpgiklbaoikogaaW.PrintWords Go.Proofs.YtpgiklbaoikogaaW.PrintLast Go.Proofs.YtpgiklbaoikogaaW.PrintMore

theorem FnExactDiskOK (l0_0 : List ByteArray) (l0_1 : List S109) (m0 : l0_0.length ≤ maxLen) (h0 : ∀ x ∈ l0_0, (fun x : ByteArray => x.size ≤ maxLen) x) (m1 : l0_1.length ≤ maxLen) (h1 : ∀ x ∈ l0_1, (fun x : S109 => (Lit.int .i64 x.f0).wf = true ∧ (Lit.int .i64 x.f1).wf = true ∧ x.f2.size ≤ maxLen) x) : ∃ k, laws_FnExactDiskOK.f k l0_0 l0_1 = some true := by
  refine ⟨2500000, ?_⟩
  obtain ⟨r, e, hr⟩ := szDisk_is l0_0 l0_1 h0 (fun x hx => (h1 x hx).2.2) m0 m1 2500000 (by omega)
  unfold laws_FnExactDiskOK.f
  rw [e]
  simp only [Option.bind_some]
  by_cases h : r < 0
  · rw [if_pos h]
  · obtain ⟨n0, n1⟩ := hr (by omega)
    have n1' : (l0_1.map toO).length ≤ 1048576 := by rw [List.length_map]; exact n1
    rw [if_neg h]
    simp only [Option.bind_some, toDisk_eq l0_0 l0_1 2500000 n0 n1 (by omega), spec_disk l0_0 (l0_1.map toO) n0 n1' 2500000 (by omega), impl_disk, bne_self_eq_false, Bool.false_eq_true, if_false, eqDisk_self l0_0 (l0_1.map toO) 2500000 n0 n1' (by omega), if_true]
end Go.Proofs.Ytpgiklbaoikogaa.Pure
