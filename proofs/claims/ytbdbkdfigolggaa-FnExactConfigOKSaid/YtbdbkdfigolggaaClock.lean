/- Plain facts on quotients that are rounded up and down, and on numbers that fit; no condition of their own. -/
import Derived.Test.YtbdbkdfigolggaaWMore
namespace Go.Proofs.Ytbdbkdfigolggaa.Plain
open Go.RowKit Go.Proofs.YtbdbkdfigolggaaW.PrintWords Go.Proofs.YtbdbkdfigolggaaW.PrintMore
theorem w64 {x : Int} (h1 : -9223372036854775808 ≤ x) (h2 : x ≤ 9223372036854775807) : wrap64 x = x := by unfold wrap64; omega
theorem ediv_is {n d q : Int} (hd : 0 < d) (h1 : q * d ≤ n) (h2 : n < (q + 1) * d) : n / d = q := by
  have a1 : q ≤ n / d := (Int.le_ediv_iff_mul_le hd).2 h1
  have a2 : n / d < q + 1 := (Int.ediv_lt_iff_lt_mul hd).2 h2
  omega
theorem ceil_is (n d : Int) (hd : 0 < d) : (n + (d - 1)) / d = n / d + (if n % d < 1 then 0 else 1) := by
  have h1 := Int.emod_nonneg n (Int.ne_of_gt hd)
  have h2 := Int.emod_lt_of_pos n hd
  have h3 := Int.mul_ediv_add_emod n d
  have h4 : d * (n / d) = (n / d) * d := Int.mul_comm _ _
  apply ediv_is hd
  · rw [Int.add_mul]
    split <;> omega
  · rw [Int.add_mul, Int.add_mul]
    split <;> omega
end Go.Proofs.Ytbdbkdfigolggaa.Plain
