/- The laws' guard on a disk's size, as a plain function: it is told, and where it lets a disk pass, there are at most 1048576 sectors and writes. -/
import Derived.Test.YtpgiklbaoikogaaQ1
import Derived.Test.YtpgiklbaoikogaaDisks
set_option linter.unusedSimpArgs false
set_option linter.unusedVariables false
namespace Go.Proofs.Ytpgiklbaoikogaa.Pure
open Go.RowKit Go.Proofs.Ytpgiklbaoikogaa.Q Go.Proofs.Ytpgiklbaoikogaa.Hand Go.Proofs.YtpgiklbaoikogaaW.PrintWords Go.Proofs.YtpgiklbaoikogaaW.PrintLast Go.Proofs.YtpgiklbaoikogaaW.PrintMore

theorem w64z {x : Int} (h1 : -9223372036854775808 ≤ x) (h2 : x ≤ 9223372036854775807) : wrap64 x = x := by unfold wrap64; omega
theorem szS_loop (l : List ByteArray) (hz : ∀ x ∈ l, x.size ≤ maxLen) (hn : l.length ≤ 1048576) (d : Nat) : ∀ (k i : Nat) (a : Int), 0 ≤ a → a ≤ 1048576 → i ≤ l.length → l.length - i = d → d < k → ∃ r, laws_szStringS.l0 k l a (i : Int) = some r ∧ r ≤ 1048576 := by
  have hmax : maxLen = 9223372036854775807 := by decide
  induction d with
  | zero =>
    intro k i a a0 a1 hi hd hk
    obtain ⟨k, rfl⟩ : ∃ m, k = m + 1 := ⟨k - 1, by omega⟩
    have c : ¬ (i : Int) < (l.length : Int) := by omega
    simp only [laws_szStringS.l0, if_neg c]
    exact ⟨a, rfl, a1⟩
  | succ d ih =>
    intro k i a a0 a1 hi hd hk
    obtain ⟨k, rfl⟩ : ∃ m, k = m + 1 := ⟨k - 1, by omega⟩
    have hlt : i < l.length := by omega
    have c : (i : Int) < (l.length : Int) := by omega
    have c0 : (0 : Int) ≤ (i : Int) := by omega
    have hs := hz _ (List.getElem_mem hlt)
    simp only [laws_szStringS.l0, if_pos c, if_pos c0]
    rw [rds_get l i hlt, w64z (x := a - (l[i].size : Int)) (by omega) (by omega)]
    by_cases h : a - (l[i].size : Int) < 0
    · rw [if_pos h]; exact ⟨-1, rfl, by omega⟩
    · rw [if_neg h, wrap_small hlt (by omega)]
      exact ih k (i + 1) _ (by omega) (by omega) (by omega) (by omega) (by omega)
theorem szS_is (l : List ByteArray) (hz : ∀ x ∈ l, x.size ≤ maxLen) (hm : l.length ≤ maxLen) (k : Nat) (hk : 1048577 < k) : ∃ r, laws_szStringS.f k l 1048576 = some r ∧ r ≤ 1048576 ∧ (0 ≤ r → l.length ≤ 1048576) := by
  have hmax : maxLen = 9223372036854775807 := by decide
  unfold laws_szStringS.f
  rw [w64z (x := 1048576 - (l.length : Int)) (by omega) (by omega)]
  by_cases h : 1048576 - (l.length : Int) < 0
  · rw [if_pos h]; exact ⟨-1, rfl, by omega, by omega⟩
  · rw [if_neg h]
    obtain ⟨r, e, h1⟩ := szS_loop l hz (by omega) l.length k 0 (1048576 - (l.length : Int)) (by omega) (by omega) (by omega) (by omega) (by omega)
    exact ⟨r, e, h1, fun _ => by omega⟩
theorem szO_loop (l : List S109) (hz : ∀ x ∈ l, x.f2.size ≤ maxLen) (hn : l.length ≤ 1048576) (d : Nat) : ∀ (k i : Nat) (a : Int), 0 ≤ a → a ≤ 1048576 → i ≤ l.length → l.length - i = d → d < k → ∃ r, laws_szIoS.l0 k l a (i : Int) = some r ∧ r ≤ 1048576 := by
  have hmax : maxLen = 9223372036854775807 := by decide
  induction d with
  | zero =>
    intro k i a a0 a1 hi hd hk
    obtain ⟨k, rfl⟩ : ∃ m, k = m + 1 := ⟨k - 1, by omega⟩
    have c : ¬ (i : Int) < (l.length : Int) := by omega
    simp only [laws_szIoS.l0, if_neg c]
    exact ⟨a, rfl, a1⟩
  | succ d ih =>
    intro k i a a0 a1 hi hd hk
    obtain ⟨k, rfl⟩ : ∃ m, k = m + 1 := ⟨k - 1, by omega⟩
    have hlt : i < l.length := by omega
    have c : (i : Int) < (l.length : Int) := by omega
    have c0 : (0 : Int) ≤ (i : Int) := by omega
    have hs := hz _ (List.getElem_mem hlt)
    simp only [laws_szIoS.l0, if_pos c, if_pos c0, laws_szIo.f]
    rw [rdl_get l i hlt, w64z (x := a - (l[i].f2.size : Int)) (by omega) (by omega)]
    by_cases h : a - (l[i].f2.size : Int) < 0
    · rw [if_pos h]; exact ⟨-1, rfl, by omega⟩
    · rw [if_neg h, wrap_small hlt (by omega)]
      simp only [Option.bind_some]
      rw [if_neg h]
      exact ih k (i + 1) _ (by omega) (by omega) (by omega) (by omega) (by omega)
theorem szO_is (l : List S109) (a : Int) (a0 : 0 ≤ a) (a1 : a ≤ 1048576) (hz : ∀ x ∈ l, x.f2.size ≤ maxLen) (hm : l.length ≤ maxLen) (k : Nat) (hk : 1048577 < k) : ∃ r, laws_szIoS.f k l a = some r ∧ r ≤ 1048576 ∧ (0 ≤ r → l.length ≤ 1048576) := by
  have hmax : maxLen = 9223372036854775807 := by decide
  unfold laws_szIoS.f
  rw [w64z (x := a - (l.length : Int)) (by omega) (by omega)]
  by_cases h : a - (l.length : Int) < 0
  · rw [if_pos h]; exact ⟨-1, rfl, by omega, by omega⟩
  · rw [if_neg h]
    obtain ⟨r, e, h1⟩ := szO_loop l hz (by omega) l.length k 0 (a - (l.length : Int)) (by omega) (by omega) (by omega) (by omega) (by omega)
    exact ⟨r, e, h1, fun _ => by omega⟩
theorem szDisk_is (s : List ByteArray) (p : List S109) (hs : ∀ x ∈ s, x.size ≤ maxLen) (hp : ∀ x ∈ p, x.f2.size ≤ maxLen) (ms : s.length ≤ maxLen) (mp : p.length ≤ maxLen) (k : Nat) (hk : 1048577 < k) : ∃ r, laws_szDisk.f k s p 1048576 = some r ∧ (0 ≤ r → s.length ≤ 1048576 ∧ p.length ≤ 1048576) := by
  obtain ⟨r, e, r1, r2⟩ := szS_is s hs ms k hk
  unfold laws_szDisk.f
  rw [e]
  simp only [Option.bind_some]
  by_cases h : r < 0
  · rw [if_pos h]; exact ⟨-1, rfl, by omega⟩
  · rw [if_neg h]
    obtain ⟨q, e2, q1, q2⟩ := szO_is p r (by omega) r1 hp mp k hk
    rw [e2]
    simp only [Option.bind_some]
    by_cases h2 : q < 0
    · rw [if_pos h2]; exact ⟨-1, rfl, by omega⟩
    · rw [if_neg h2]; exact ⟨q, rfl, fun _ => ⟨r2 (by omega), q2 (by omega)⟩⟩
end Go.Proofs.Ytpgiklbaoikogaa.Pure
