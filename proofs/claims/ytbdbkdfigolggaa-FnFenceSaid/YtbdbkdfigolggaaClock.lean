/- Plain facts on quotients that are rounded up and down, and on numbers that fit; no condition of their own. -/
import Derived.Test.YtbdbkdfigolggaaWMore
namespace Go.Proofs.Ytbdbkdfigolggaa.Plain
open Go.RowKit Go.Proofs.YtbdbkdfigolggaaW.PrintWords Go.Proofs.YtbdbkdfigolggaaW.PrintMore
theorem w64 {x : Int} (h1 : -9223372036854775808 ≤ x) (h2 : x ≤ 9223372036854775807) : wrap64 x = x := by unfold wrap64; omega
theorem ediv_is {n d q : Int} (hd : 0 < d) (h1 : q * d ≤ n) (h2 : n < (q + 1) * d) : n / d = q := by
  have a1 : q ≤ n / d := (Int.le_ediv_iff_mul_le hd).2 h1
  have a2 : n / d < q + 1 := (Int.ediv_lt_iff_lt_mul hd).2 h2
  omega
theorem ceil_is (n d : Int) (hd : 0 < d) : (n + (d - 1)) / d = n / d + (if n % d < 1 then 0 else 1) := by
  have h1 := Int.emod_nonneg n (Int.ne_of_gt hd)
  have h2 := Int.emod_lt_of_pos n hd
  have h3 := Int.mul_ediv_add_emod n d
  have h4 : d * (n / d) = (n / d) * d := Int.mul_comm _ _
  apply ediv_is hd
  · rw [Int.add_mul]
    split <;> omega
  · rw [Int.add_mul, Int.add_mul]
    split <;> omega
theorem late_mul {m g late : Int} (hg : 0 ≤ g ∧ g ≤ 500) (h : late = ((m + 1) * 1000 + 999 - g) / (1000 - g)) : (m + 1) * 1000 ≤ late * (1000 - g) := by
  have h1 := Int.emod_lt_of_pos ((m + 1) * 1000 + 999 - g) (show (0 : Int) < 1000 - g by omega)
  have h2 := Int.mul_ediv_add_emod ((m + 1) * 1000 + 999 - g) (1000 - g)
  rw [← h] at h2
  have h3 : late * (1000 - g) = (1000 - g) * late := Int.mul_comm _ _
  omega
theorem early_mul {m g early : Int} (hg : 0 ≤ g ∧ g ≤ 500) (h : early = ((m - 1) * 1000) / (1000 + g)) : early * (1000 + g) ≤ (m - 1) * 1000 := by
  have h1 := Int.emod_nonneg ((m - 1) * 1000) (show (1000 + g) ≠ 0 by omega)
  have h2 := Int.mul_ediv_add_emod ((m - 1) * 1000) (1000 + g)
  rw [← h] at h2
  have h3 : early * (1000 + g) = (1000 + g) * early := Int.mul_comm _ _
  omega
theorem adv_ge {t e p m : Int} (h : m * 1000 ≤ e * p) : m ≤ ((t + e) * p) / 1000 - (t * p) / 1000 := by
  rw [Int.add_mul]
  generalize t * p = T at *
  generalize e * p = E at *
  omega
theorem adv_le {t e p m : Int} (h : e * p ≤ m * 1000) : ((t + e) * p) / 1000 - (t * p) / 1000 ≤ m := by
  rw [Int.add_mul]
  generalize t * p = T at *
  generalize e * p = E at *
  omega
theorem adv_gt {t e p m : Int} (h : m ≤ ((t + e) * p) / 1000 - (t * p) / 1000) : (m - 1) * 1000 < e * p := by
  rw [Int.add_mul] at h
  generalize t * p = T at *
  generalize e * p = E at *
  omega
theorem late_bd {m g late : Int} (hg : 0 ≤ g ∧ g ≤ 500) (hm : 0 ≤ m) (h : late = ((m + 1) * 1000 + 999 - g) / (1000 - g)) : m + 1 ≤ late ∧ late ≤ 2 * (m + 1) + 2 := by
  have hd : (0 : Int) < 1000 - g := by omega
  constructor
  · rw [h, Int.le_ediv_iff_mul_le hd, Int.mul_sub]
    have : 0 ≤ (m + 1) * g := Int.mul_nonneg (by omega) (by omega)
    omega
  · have : late < 2 * (m + 1) + 3 := by
      rw [h, Int.ediv_lt_iff_lt_mul hd, Int.mul_sub]
      have h1 : (2 * (m + 1) + 3) * g ≤ (2 * (m + 1) + 3) * 500 := Int.mul_le_mul_of_nonneg_left (by omega) (by omega)
      omega
    omega
theorem early_bd {m g early : Int} (hg : 0 ≤ g ∧ g ≤ 500) (hm : 1 ≤ m) (h : early = ((m - 1) * 1000) / (1000 + g)) : 0 ≤ early ∧ early ≤ m - 1 := by
  have hd : (0 : Int) < 1000 + g := by omega
  constructor
  · rw [h]; exact Int.ediv_nonneg (by omega) (by omega)
  · have : early < m - 1 + 1 := by
      rw [h, Int.ediv_lt_iff_lt_mul hd, Int.mul_add]
      have h1 : 0 ≤ (m - 1 + 1) * g := Int.mul_nonneg (by omega) (by omega)
      omega
    omega
end Go.Proofs.Ytbdbkdfigolggaa.Plain
