/- Whether a disk is right: the program's and the reference's test, as plain functions, tell the same; for disks of at most 1048576 sectors and writes. -/
import Derived.Test.YtpgiklbaoikogaaQ1
import Derived.Test.YtpgiklbaoikogaaQ2
import Derived.Test.YtpgiklbaoikogaaDisks
set_option linter.unusedSimpArgs false
set_option linter.unusedVariables false
namespace Go.Proofs.Ytpgiklbaoikogaa.Pure
open Go.RowKit Go.Proofs.Ytpgiklbaoikogaa.Q Go.Proofs.Ytpgiklbaoikogaa.Hand Go.Proofs.YtpgiklbaoikogaaW.PrintWords Go.Proofs.YtpgiklbaoikogaaW.PrintLast Go.Proofs.YtpgiklbaoikogaaW.PrintMore

def secP (s : ByteArray) : Bool := decide ((s.size : Int) ≤ 80)
def ioP (x : S84) : Bool := inB x.f0 0 3 && (inB x.f1 0 63 && secP x.f2)
def diskB (s : List ByteArray) (p : List S84) : Bool := decide (s.length = 64) && (s.all secP && (decide (p.length ≤ 200) && p.all ioP))
theorem io_is (x : S84) : spec_l01Io.f x.f0 x.f1 x.f2 = some (ioP x) := by
  have e : ∀ a b c, spec_l01In.f a b c = some (inB a b c) := fun a b c => InR_eq a b c
  unfold spec_l01Io.f ioP secP
  simp only [e, Option.bind_some]
  cases inB x.f0 0 3 <;> cases inB x.f1 0 63 <;> simp
theorem ok_writes (s : List ByteArray) (p : List S84) (hn : p.length ≤ 1048576) (d : Nat) : ∀ (k i : Nat), i ≤ p.length → p.length - i = d → d < k → spec_DiskOK.l1 k (i : Int) s p = some ((p.drop i).all ioP) := by
  induction d with
  | zero =>
    intro k i hi hd hk
    obtain ⟨k, rfl⟩ : ∃ m, k = m + 1 := ⟨k - 1, by omega⟩
    have c : ¬ (i : Int) < (p.length : Int) := by omega
    simp only [spec_DiskOK.l1, if_neg c]
    rw [List.drop_eq_nil_of_le (by omega)]
    rfl
  | succ d ih =>
    intro k i hi hd hk
    obtain ⟨k, rfl⟩ : ∃ m, k = m + 1 := ⟨k - 1, by omega⟩
    have hlt : i < p.length := by omega
    have c : (i : Int) < (p.length : Int) := by omega
    have c0 : (0 : Int) ≤ (i : Int) := by omega
    simp only [spec_DiskOK.l1, if_pos c, if_pos c0]
    rw [rdi_get p i hlt, io_is, List.drop_eq_getElem_cons hlt, List.all_cons, wrap_small hlt (by omega), ih k (i + 1) (by omega) (by omega) (by omega)]
    simp only [Option.bind_some]
    cases ioP p[i] <;> simp
theorem ok_sectors (s : List ByteArray) (p : List S84) (hs : s.length ≤ 1048576) (hp : p.length ≤ 1048576) (d : Nat) : ∀ (k i : Nat), i ≤ s.length → s.length - i = d → d + p.length + 2 < k → spec_DiskOK.l0 k (i : Int) s p = some ((s.drop i).all secP && p.all ioP) := by
  induction d with
  | zero =>
    intro k i hi hd hk
    obtain ⟨k, rfl⟩ : ∃ m, k = m + 1 := ⟨k - 1, by omega⟩
    have c : ¬ (i : Int) < (s.length : Int) := by omega
    simp only [spec_DiskOK.l0, if_neg c]
    rw [List.drop_eq_nil_of_le (by omega)]
    refine (ok_writes s p hp p.length k 0 (by omega) (by omega) (by omega)).trans ?_
    simp
  | succ d ih =>
    intro k i hi hd hk
    obtain ⟨k, rfl⟩ : ∃ m, k = m + 1 := ⟨k - 1, by omega⟩
    have hlt : i < s.length := by omega
    have c : (i : Int) < (s.length : Int) := by omega
    have c0 : (0 : Int) ≤ (i : Int) := by omega
    simp only [spec_DiskOK.l0, if_pos c, if_pos c0]
    rw [rds_get s i hlt, List.drop_eq_getElem_cons hlt, List.all_cons, wrap_small hlt (by omega), ih k (i + 1) (by omega) (by omega) (by omega)]
    by_cases h : (s[i].size : Int) > 80
    · have e : secP s[i] = false := decide_eq_false (by omega)
      rw [if_pos h, e]
      rfl
    · have e : secP s[i] = true := decide_eq_true (by omega)
      rw [if_neg h, e]
      simp
theorem spec_disk (s : List ByteArray) (p : List S84) (hs : s.length ≤ 1048576) (hp : p.length ≤ 1048576) (k : Nat) (hk : 2200000 < k) : spec_DiskOK.f k s p = some (diskB s p) := by
  obtain ⟨k, rfl⟩ : ∃ m, k = m + 1 := ⟨k - 1, by omega⟩
  unfold spec_DiskOK.f diskB
  simp only [spec_DiskOK.j0]
  by_cases h : s.length = 64
  · have c : (s.length : Int) = 64 := by omega
    have d1 : decide (s.length = 64) = true := decide_eq_true h
    rw [if_pos c, d1]
    by_cases h2 : (p.length : Int) > 200
    · have d2 : decide (p.length ≤ 200) = false := decide_eq_false (by omega)
      rw [d2, decide_eq_true h2]
      simp
    · have d2 : decide (p.length ≤ 200) = true := decide_eq_true (by omega)
      rw [d2, decide_eq_false h2]
      refine (if_neg Bool.false_ne_true).trans ?_
      refine (ok_sectors s p hs hp s.length k 0 (by omega) (by omega) (by omega)).trans ?_
      simp
  · have c : ¬ (s.length : Int) = 64 := by omega
    have d1 : decide (s.length = 64) = false := decide_eq_false h
    rw [if_neg c, d1]
    simp
theorem impl_disk (s : List ByteArray) (p : List S84) : impl_DiskOK.f s p = some (diskB s p) := by
  have e1 : impl_all_string.f s fn_isSector = some (s.all secP) := rfl
  have e2 : impl_all_Io.f p fn_DiskOK = some (p.all ioP) := rfl
  unfold impl_DiskOK.f diskB
  rw [e1, e2]
  by_cases h : s.length = 64
  · have c : (s.length : Int) = 64 := by omega
    rw [if_pos c, decide_eq_true h]
    by_cases h2 : (p.length : Int) ≤ 200
    · have d2 : decide (p.length ≤ 200) = true := decide_eq_true (by omega)
      rw [if_pos h2, d2]
      cases s.all secP <;> simp
    · have d2 : decide (p.length ≤ 200) = false := decide_eq_false (by omega)
      rw [if_neg h2, d2]
      cases s.all secP <;> simp
  · have c : ¬ (s.length : Int) = 64 := by omega
    rw [if_neg c, decide_eq_false h]
    rfl
end Go.Proofs.Ytpgiklbaoikogaa.Pure
