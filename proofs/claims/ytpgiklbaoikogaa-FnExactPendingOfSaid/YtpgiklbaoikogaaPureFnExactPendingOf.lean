/- The program's PendingOf and the reference's give the same for every disk that the law's own guard lets pass, and every host. -/
import Derived.Test.YtpgiklbaoikogaaQ6
import Derived.Test.YtpgiklbaoikogaaDiskSz
import Derived.Test.YtpgiklbaoikogaaDiskOK
import Derived.Test.YtpgiklbaoikogaaFirsts
set_option linter.unusedSimpArgs false
set_option linter.unusedVariables false
namespace Go.Proofs.Ytpgiklbaoikogaa.Pure
open Go.RowKit Go.Proofs.Ytpgiklbaoikogaa.Q Go.Proofs.Ytpgiklbaoikogaa.Hand Go.Proofs.YtpgiklbaoikogaaW.PrintWords Go.Proofs.YtpgiklbaoikogaaW.PrintLast Go.Proofs.YtpgiklbaoikogaaW.PrintMore

theorem pending_loops (h : Int) (s : List ByteArray) (p : List S84) (hp : p.length ≤ 1048576) (d : Nat) : ∀ (k i : Nat) (n : Int), 0 ≤ n → n ≤ (i : Int) → i ≤ p.length → p.length - i = d → d < k → ∃ r, spec_l01Count.l0 k h n (i : Int) s p = some r ∧ impl_Disk_pending.l0 k h n p (p.length : Int) (i : Int) = some r := by
  induction d with
  | zero =>
    intro k i n n0 n1 hi hd hk
    obtain ⟨k, rfl⟩ : ∃ m, k = m + 1 := ⟨k - 1, by omega⟩
    have c : ¬ (i : Int) < (p.length : Int) := by omega
    simp only [spec_l01Count.l0, impl_Disk_pending.l0, if_neg c]
    exact ⟨_, rfl, rfl⟩
  | succ d ih =>
    intro k i n n0 n1 hi hd hk
    obtain ⟨k, rfl⟩ : ∃ m, k = m + 1 := ⟨k - 1, by omega⟩
    have hlt : i < p.length := by omega
    have c : (i : Int) < (p.length : Int) := by omega
    have c0 : (0 : Int) ≤ (i : Int) := by omega
    have w1 : wrap64 (n + 1) = n + 1 := by unfold wrap64; omega
    have w0 : wrap64 (n + 0) = n := by unfold wrap64; omega
    simp only [spec_l01Count.l0, impl_Disk_pending.l0, if_pos c, if_pos c0, spec_l01Bit.f]
    rw [wrap_small hlt (by omega)]
    by_cases hh : (rd_T84 p (i : Int)).f0 = h
    · have e : ((rd_T84 p (i : Int)).f0 == h) = true := by rw [hh]; exact beq_self_eq_true h
      rw [if_pos hh, e, if_pos rfl]
      simp only [Option.bind_some, w1]
      exact ih k (i + 1) _ (by omega) (by omega) (by omega) (by omega) (by omega)
    · have e : ((rd_T84 p (i : Int)).f0 == h) = false := beq_eq_false_iff_ne.2 hh
      rw [if_neg hh, e, if_neg Bool.false_ne_true]
      simp only [Option.bind_some, w0]
      exact ih k (i + 1) _ (by omega) (by omega) (by omega) (by omega) (by omega)
theorem pending_same (s : List ByteArray) (p : List S84) (h : Int) (hs : s.length ≤ 1048576) (hp : p.length ≤ 1048576) (k : Nat) (hk : 2200000 < k) : ∃ r, spec_PendingOf.f k s p h = some r ∧ impl_PendingOf.f k s p h = some r := by
  have hv : ∀ a b c, impl_within.f a b c = spec_l01In.f a b c := fun _ _ _ => rfl
  have d0 : decide ((0 : Int) ≤ 0) = true := rfl
  have d1 : decide ((0 : Int) ≤ 63) = true := rfl
  obtain ⟨r, e1, e2⟩ := pending_loops h s p hp p.length k 0 0 (by omega) (by omega) (by omega) (by omega) (by omega)
  have e1' : spec_l01Count.f k s p h = some r := e1
  have e2' : impl_Disk_pending.f k s p h = some r := e2
  unfold spec_PendingOf.f impl_PendingOf.f spec_l01Ask.f impl_Disk_codes.f impl_isHost.f
  simp only [spec_disk s p hs hp k hk, impl_disk, hv, InR_eq, Option.bind_some, firsts2, d0, d1, Bool.and_self, if_true]
  generalize (decide (0 ≤ h) && decide (h ≤ 3)) = q
  cases diskB s p with
  | false => exact ⟨(0, 1), by simp, by simp⟩
  | true =>
    cases q with
    | false => exact ⟨(0, 4), by simp, by simp⟩
    | true => exact ⟨(r, 0), by simp [e1'], by simp [e2']⟩
theorem FnExactPendingOf (l0_0 : List ByteArray) (l0_1 : List S109) (a1 : Int) (m0 : l0_0.length ≤ maxLen) (h0 : ∀ x ∈ l0_0, (fun x : ByteArray => x.size ≤ maxLen) x) (m1 : l0_1.length ≤ maxLen) (h1 : ∀ x ∈ l0_1, (fun x : S109 => (Lit.int .i64 x.f0).wf = true ∧ (Lit.int .i64 x.f1).wf = true ∧ x.f2.size ≤ maxLen) x) (_ : (Lit.int .i64 a1).wf = true) : ∃ k, laws_FnExactPendingOf.f k l0_0 l0_1 a1 = some true := by
  refine ⟨2500000 + 1, ?_⟩
  obtain ⟨r, e, hr⟩ := szDisk_is l0_0 l0_1 h0 (fun x hx => (h1 x hx).2.2) m0 m1 (2500000 + 1) (by omega)
  unfold laws_FnExactPendingOf.f
  rw [e]
  simp only [Option.bind_some]
  by_cases h : r < 0
  · rw [if_pos h]
  · obtain ⟨n0, n1⟩ := hr (by omega)
    have n1' : (l0_1.map toO).length ≤ 1048576 := by rw [List.length_map]; exact n1
    obtain ⟨q, e1, e2⟩ := pending_same l0_0 (l0_1.map toO) a1 n0 n1' (2500000 + 1) (by omega)
    rw [if_neg h]
    simp only [Option.bind_some, toDisk_eq l0_0 l0_1 (2500000 + 1) n0 n1 (by omega), e1, e2, if_true, laws_FnExactPendingOf.j0, bne_self_eq_false, Bool.false_eq_true, if_false, toDisk_eq l0_0 l0_1 2500000 n0 n1 (by omega), eqDisk_self l0_0 (l0_1.map toO) 2500000 n0 n1' (by omega)]
end Go.Proofs.Ytpgiklbaoikogaa.Pure
