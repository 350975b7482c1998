/- How numbers are unpacked: the program's and the reference's unpacking, as plain functions; for texts of at most 1048576 bytes. -/
import Derived.Test.YtpgiklbaoikogaaQ2
import Derived.Test.YtpgiklbaoikogaaQ1
import Derived.Test.YtpgiklbaoikogaaNums
import Derived.Test.YtpgiklbaoikogaaFirsts
set_option linter.unusedSimpArgs false
set_option linter.unusedVariables false
namespace Go.Proofs.Ytpgiklbaoikogaa.Pure
open Go.RowKit Go.Proofs.Ytpgiklbaoikogaa.Q Go.Proofs.Ytpgiklbaoikogaa.Hand Go.Proofs.YtpgiklbaoikogaaW.PrintWords Go.Proofs.YtpgiklbaoikogaaW.PrintLast Go.Proofs.YtpgiklbaoikogaaW.PrintMore
theorem or_nat (a b : Nat) (ha : a < 4611686018427387904) (hb : b < 4611686018427387904) : Go.bits .or .i64 (a : Int) (b : Int) = ((a ||| b : Nat) : Int) := by
  have hx : a ||| b < 2 ^ 62 := Nat.or_lt_two_pow (by omega) (by omega)
  have h1 : (BitVec.ofInt 64 (a : Int)).toNat = a := by
    rw [BitVec.ofInt_natCast, BitVec.toNat_ofNat]; exact Nat.mod_eq_of_lt (by omega)
  have h2 : (BitVec.ofInt 64 (b : Int)).toNat = b := by
    rw [BitVec.ofInt_natCast, BitVec.toNat_ofNat]; exact Nat.mod_eq_of_lt (by omega)
  show IntKind.i64.wrap ((BitVec.ofInt 64 (a : Int) ||| BitVec.ofInt 64 (b : Int)).toNat : Int) = _
  rw [BitVec.toNat_or, h1, h2, IntKind.wrap_i64]
  omega
theorem or_high (i : Nat) (a b : Nat) (hb : b < 2 ^ i) (ha : 2 ^ i * a < 4611686018427387904) (hb' : b < 4611686018427387904) : Go.bits .or .i64 ((2 ^ i * a : Nat) : Int) (b : Int) = ((2 ^ i * a + b : Nat) : Int) := by
  rw [or_nat _ _ ha hb', Nat.two_pow_add_eq_or_of_lt hb]
theorem or_low (i : Nat) (a b : Nat) (hb : b < 2 ^ i) (ha : 2 ^ i * a < 4611686018427387904) (hb' : b < 4611686018427387904) : Go.bits .or .i64 (b : Int) ((2 ^ i * a : Nat) : Int) = ((2 ^ i * a + b : Nat) : Int) := by
  rw [or_nat _ _ hb' ha, Nat.or_comm, Nat.two_pow_add_eq_or_of_lt hb]
theorem or_step {x b : Int} (hx : 0 ≤ x ∧ x < 16777216) (hb : 0 ≤ b ∧ b ≤ 255) : Go.bits .or .i64 (x * 256) b = x * 256 + b := by
  obtain ⟨X, rfl⟩ : ∃ n : Nat, x = (n : Int) := ⟨x.toNat, by omega⟩
  obtain ⟨B, rfl⟩ : ∃ n : Nat, b = (n : Int) := ⟨b.toNat, by omega⟩
  have e : (X : Int) * 256 = ((2 ^ 8 * X : Nat) : Int) := by omega
  rw [e, or_high 8 X B (by omega) (by omega) (by omega)]
  omega
theorem or_16 {x b : Int} (hx : 0 ≤ x ∧ x < 256) (hb : 0 ≤ b ∧ b ≤ 255) : Go.bits .or .i64 x (b * 256) = x + b * 256 := by
  obtain ⟨X, rfl⟩ : ∃ n : Nat, x = (n : Int) := ⟨x.toNat, by omega⟩
  obtain ⟨B, rfl⟩ : ∃ n : Nat, b = (n : Int) := ⟨b.toNat, by omega⟩
  have e : (B : Int) * 256 = ((2 ^ 8 * B : Nat) : Int) := by omega
  rw [e, or_low 8 B X (by omega) (by omega) (by omega)]
  omega
theorem or_24 {x b : Int} (hx : 0 ≤ x ∧ x < 65536) (hb : 0 ≤ b ∧ b ≤ 255) : Go.bits .or .i64 x (b * 65536) = x + b * 65536 := by
  obtain ⟨X, rfl⟩ : ∃ n : Nat, x = (n : Int) := ⟨x.toNat, by omega⟩
  obtain ⟨B, rfl⟩ : ∃ n : Nat, b = (n : Int) := ⟨b.toNat, by omega⟩
  have e : (B : Int) * 65536 = ((2 ^ 16 * B : Nat) : Int) := by omega
  rw [e, or_low 16 B X (by omega) (by omega) (by omega)]
  omega
theorem or_32 {x b : Int} (hx : 0 ≤ x ∧ x < 16777216) (hb : 0 ≤ b ∧ b ≤ 255) : Go.bits .or .i64 x (b * 16777216) = x + b * 16777216 := by
  obtain ⟨X, rfl⟩ : ∃ n : Nat, x = (n : Int) := ⟨x.toNat, by omega⟩
  obtain ⟨B, rfl⟩ : ∃ n : Nat, b = (n : Int) := ⟨b.toNat, by omega⟩
  have e : (B : Int) * 16777216 = ((2 ^ 24 * B : Nat) : Int) := by omega
  rw [e, or_low 24 B X (by omega) (by omega) (by omega)]
  omega
theorem w64u {x : Int} (h1 : -9223372036854775808 ≤ x) (h2 : x ≤ 9223372036854775807) : wrap64 x = x := by unfold wrap64; omega
/-- The number at a place. -/
def val (s : ByteArray) (i : Int) : Int := bt s i + bt s (i + 1) * 256 + bt s (i + 2) * 65536 + bt s (i + 3) * 16777216
def vals (s : ByteArray) (n : Nat) : List Int := (List.range n).map (fun j : Nat => val s (4 * (j : Int)))
theorem vals_length (s : ByteArray) (n : Nat) : (vals s n).length = n := by simp [vals]
theorem vals_succ (s : ByteArray) (n : Nat) : vals s n ++ [val s (4 * (n : Int))] = vals s (n + 1) := by
  unfold vals; rw [List.range_succ, List.map_append]; rfl
theorem unpack_inner (s : ByteArray) (x4 : List Int) (i : Int) (k : Nat) (hi : 0 ≤ i) (hj : i + 3 < (s.size : Int)) (hs : s.size ≤ 1048576) (hx : x4.length ≤ 1000000) : spec_l02Unpack.l1 (k + 5) s x4 i 0 3 = spec_l02Unpack.l0 k s (x4 ++ [val s i]) (wrap64 (i + 4)) := by
  have b0 := bt_range s i
  have b1 := bt_range s (i + 1)
  have b2 := bt_range s (i + 2)
  have b3 := bt_range s (i + 3)
  have w3 : wrap64 (i + 3) = i + 3 := w64u (by omega) (by omega)
  have w2 : wrap64 (i + 2) = i + 2 := w64u (by omega) (by omega)
  have w1 : wrap64 (i + 1) = i + 1 := w64u (by omega) (by omega)
  have w0 : wrap64 (i + 0) = i := (w64u (by omega) (by omega)).trans (by omega)
  have d3 : wrap64 (3 - 1) = 2 := by unfold wrap64; omega
  have d2 : wrap64 (2 - 1) = 1 := by unfold wrap64; omega
  have d1 : wrap64 (1 - 1) = 0 := by unfold wrap64; omega
  have d0 : wrap64 (0 - 1) = -1 := by unfold wrap64; omega
  have v3 : Go.bits .or .i64 (wrap64 (0 * 256)) (wrap64 (bt s (i + 3))) = bt s (i + 3) := by
    rw [w64u (x := 0 * 256) (by omega) (by omega), w64u (x := bt s (i + 3)) (by omega) (by omega), or_step (by omega) b3]; omega
  have v2 : Go.bits .or .i64 (wrap64 (bt s (i + 3) * 256)) (wrap64 (bt s (i + 2))) = bt s (i + 3) * 256 + bt s (i + 2) := by
    rw [w64u (x := bt s (i + 3) * 256) (by omega) (by omega), w64u (x := bt s (i + 2)) (by omega) (by omega), or_step (by omega) b2]
  have v1 : Go.bits .or .i64 (wrap64 ((bt s (i + 3) * 256 + bt s (i + 2)) * 256)) (wrap64 (bt s (i + 1))) = (bt s (i + 3) * 256 + bt s (i + 2)) * 256 + bt s (i + 1) := by
    rw [w64u (x := (bt s (i + 3) * 256 + bt s (i + 2)) * 256) (by omega) (by omega), w64u (x := bt s (i + 1)) (by omega) (by omega), or_step (by omega) b1]
  have v0 : Go.bits .or .i64 (wrap64 (((bt s (i + 3) * 256 + bt s (i + 2)) * 256 + bt s (i + 1)) * 256)) (wrap64 (bt s i)) = val s i := by
    rw [w64u (x := ((bt s (i + 3) * 256 + bt s (i + 2)) * 256 + bt s (i + 1)) * 256) (by omega) (by omega), w64u (x := bt s i) (by omega) (by omega), or_step (by omega) b0]
    unfold val; omega
  have c3 : i + 3 < (s.size : Int) := hj
  have c2 : i + 2 < (s.size : Int) := by omega
  have c1 : i + 1 < (s.size : Int) := by omega
  have c0 : i < (s.size : Int) := by omega
  have p3 : 0 ≤ i + 3 := by omega
  have p2 : 0 ≤ i + 2 := by omega
  have p1 : 0 ≤ i + 1 := by omega
  have q3 : (3 : Int) ≥ 0 := by omega
  have q2 : (2 : Int) ≥ 0 := by omega
  have q1 : (1 : Int) ≥ 0 := by omega
  have q0 : (0 : Int) ≥ 0 := by omega
  have qm : ¬ (-1 : Int) ≥ 0 := by omega
  have cl : x4.length < 17592186044416 := by omega
  simp only [spec_l02Unpack.l1, if_pos q3, w3, if_pos p3, if_pos c3, v3, d3, if_pos q2, w2, if_pos p2, if_pos c2, v2, d2, if_pos q1, w1, if_pos p1, if_pos c1, v1, d1, if_pos q0, w0, if_pos hi, if_pos c0, v0, d0, if_neg qm, if_pos cl]
theorem unpack_spec_loop (s : ByteArray) (m : Nat) (hm : s.size = 4 * m) (hs : s.size ≤ 1048576) (d : Nat) : ∀ (k i : Nat), i ≤ m → m - i = d → 6 * d + m + 1 < k → spec_l02Unpack.l0 k s (vals s i) (4 * (i : Int)) = some (vals s m, intsB (vals s m)) := by
  induction d with
  | zero =>
    intro k i hi hd hk
    obtain ⟨k, rfl⟩ : ∃ m, k = m + 1 := ⟨k - 1, by omega⟩
    have e : i = m := by omega
    subst e
    have c1 : ¬ 4 * (i : Int) < (s.size : Int) := by omega
    simp only [spec_l02Unpack.l0, if_neg c1, spec_ints (vals s i) k (by rw [vals_length]; omega) (by rw [vals_length]; omega), Option.bind_some]
  | succ d ih =>
    intro k i hi hd hk
    obtain ⟨k, rfl⟩ : ∃ m, k = m + 6 := ⟨k - 6, by omega⟩
    have c1 : 4 * (i : Int) < (s.size : Int) := by omega
    have e : wrap64 (4 * (i : Int) + 4) = 4 * ((i + 1 : Nat) : Int) := by unfold wrap64; omega
    simp only [spec_l02Unpack.l0, if_pos c1]
    rw [unpack_inner s _ _ k (by omega) (by omega) hs (by rw [vals_length]; omega), vals_succ, e]
    exact ih k (i + 1) (by omega) (by omega) (by omega)
/-- What the program reads: at most seventeen numbers. -/
def most (s : ByteArray) : Nat := min (s.size / 4) 17
theorem unpack_impl_loop (s : ByteArray) (hs : s.size ≤ 1048576) (d : Nat) : ∀ (k i : Nat), i ≤ most s → most s - i = d → d < k → impl_unpack.l0 k s (vals s i) (4 * (i : Int)) = some (vals s (most s), if ((s.size : Int) % 4) = 0 then intsB (vals s (most s)) else false) := by
  induction d with
  | zero =>
    intro k i hi hd hk
    obtain ⟨k, rfl⟩ : ∃ m, k = m + 1 := ⟨k - 1, by omega⟩
    have e : i = most s := by omega
    have w : wrap64 (4 * (i : Int) + 4) = 4 * (i : Int) + 4 := by unfold wrap64; unfold most at e; omega
    simp only [impl_unpack.l0, w, impl_ints, Option.bind_some]
    have hm : most s = min (s.size / 4) 17 := rfl
    by_cases c1 : 4 * (i : Int) + 4 ≤ (s.size : Int)
    · have c2 : ¬ 4 * (i : Int) < 68 := by omega
      rw [if_pos c1, if_neg c2, ← e]
      split <;> rfl
    · rw [if_neg c1, ← e]
      split <;> rfl
  | succ d ih =>
    intro k i hi hd hk
    obtain ⟨k, rfl⟩ : ∃ m, k = m + 1 := ⟨k - 1, by omega⟩
    have hm : most s = min (s.size / 4) 17 := rfl
    have hi17 : i < 17 := by omega
    have b0 := bt_range s (4 * (i : Int))
    have b1 := bt_range s (4 * (i : Int) + 1)
    have b2 := bt_range s (4 * (i : Int) + 2)
    have b3 := bt_range s (4 * (i : Int) + 3)
    have w4 : wrap64 (4 * (i : Int) + 4) = 4 * (i : Int) + 4 := by unfold wrap64; omega
    have w3 : wrap64 (4 * (i : Int) + 3) = 4 * (i : Int) + 3 := by unfold wrap64; omega
    have w2 : wrap64 (4 * (i : Int) + 2) = 4 * (i : Int) + 2 := by unfold wrap64; omega
    have w1 : wrap64 (4 * (i : Int) + 1) = 4 * (i : Int) + 1 := by unfold wrap64; omega
    have c1 : 4 * (i : Int) + 4 ≤ (s.size : Int) := by omega
    have c2 : 4 * (i : Int) < 68 := by omega
    have p0 : (0 : Int) ≤ 4 * (i : Int) := by omega
    have p1 : (0 : Int) ≤ 4 * (i : Int) + 1 := by omega
    have p2 : (0 : Int) ≤ 4 * (i : Int) + 2 := by omega
    have p3 : (0 : Int) ≤ 4 * (i : Int) + 3 := by omega
    have l0 : 4 * (i : Int) < (s.size : Int) := by omega
    have l1 : 4 * (i : Int) + 1 < (s.size : Int) := by omega
    have l2 : 4 * (i : Int) + 2 < (s.size : Int) := by omega
    have l3 : 4 * (i : Int) + 3 < (s.size : Int) := by omega
    have cl : (vals s i).length < 17592186044416 := by rw [vals_length]; omega
    have v : Go.bits .or .i64 (Go.bits .or .i64 (Go.bits .or .i64 (wrap64 (bt s (4 * (i : Int)))) (wrap64 (wrap64 (bt s (4 * (i : Int) + 1)) * 256))) (wrap64 (wrap64 (bt s (4 * (i : Int) + 2)) * 65536))) (wrap64 (wrap64 (bt s (4 * (i : Int) + 3)) * 16777216)) = val s (4 * (i : Int)) := by
      rw [w64u (x := bt s (4 * (i : Int))) (by omega) (by omega), w64u (x := bt s (4 * (i : Int) + 1)) (by omega) (by omega), w64u (x := bt s (4 * (i : Int) + 2)) (by omega) (by omega), w64u (x := bt s (4 * (i : Int) + 3)) (by omega) (by omega), w64u (x := bt s (4 * (i : Int) + 1) * 256) (by omega) (by omega), w64u (x := bt s (4 * (i : Int) + 2) * 65536) (by omega) (by omega), w64u (x := bt s (4 * (i : Int) + 3) * 16777216) (by omega) (by omega), or_16 (by omega) b1, or_24 (by omega) b2, or_32 (by omega) b3]
      rfl
    simp only [impl_unpack.l0, w4, w3, w2, w1, if_pos c1, if_pos c2, if_pos p0, if_pos p1, if_pos p2, if_pos p3, if_pos l0, if_pos l1, if_pos l2, if_pos l3, if_pos cl, v]
    have e : 4 * (i : Int) + 4 = 4 * ((i + 1 : Nat) : Int) := by omega
    rw [vals_succ, e]
    exact ih k (i + 1) (by omega) (by omega) (by omega)
theorem unpack_impl (s : ByteArray) (hs : s.size ≤ 1048576) (k : Nat) (hk : 1000 < k) : impl_unpack.f k s = some (vals s (most s), if ((s.size : Int) % 4) = 0 then intsB (vals s (most s)) else false) :=
  unpack_impl_loop s hs (most s) k 0 (by omega) (by omega) (by unfold most; omega)
theorem unpack_spec (s : ByteArray) (m : Nat) (hm : s.size = 4 * m) (hs : s.size ≤ 1048576) (k : Nat) (hk : 7 * m + 1 < k) : spec_l02Unpack.f k s = some (vals s m, intsB (vals s m)) := by
  have h4 : ((s.size : Int) % 4) = 0 := by omega
  unfold spec_l02Unpack.f
  simp only [Option.bind_some]
  rw [if_pos h4]
  exact unpack_spec_loop s m hm hs m k 0 (by omega) (by omega) (by omega)
theorem unpack_spec_odd (s : ByteArray) (h4 : ¬ ((s.size : Int) % 4) = 0) (k : Nat) : spec_l02Unpack.f k s = some ([], false) := by
  unfold spec_l02Unpack.f
  simp only [Option.bind_some]
  rw [if_neg h4]
end Go.Proofs.Ytpgiklbaoikogaa.Pure
