/- What drawn clocks and configurations give: right configurations are told right, and what a clock shows of two times; no condition beyond those that each states. -/
import Derived.Test.YtbdbkdfigolggaaQ4
import Derived.Test.YtbdbkdfigolggaaDraw
import Derived.Test.YtbdbkdfigolggaaAt
set_option linter.unusedSimpArgs false
set_option linter.unusedVariables false
namespace Go.Proofs.Ytbdbkdfigolggaa.Pure
open Go.RowKit Go.Proofs.Ytbdbkdfigolggaa.Q Go.Proofs.Ytbdbkdfigolggaa.Hand Go.Proofs.YtbdbkdfigolggaaW.PrintWords Go.Proofs.YtbdbkdfigolggaaW.PrintLast Go.Proofs.YtbdbkdfigolggaaW.PrintMore
theorem right_is {a b c d : Int} (ha : 1 ≤ a ∧ a ≤ 10000) (hb : 1 ≤ b ∧ b ≤ 100000) (hc : 0 ≤ c ∧ c ≤ 1000) (hd : 0 ≤ d ∧ d ≤ 500) : spec_l03Bounds.f a b c d = some true ∧ impl_Config_right.f a b c d = some true := by
  have hv : ∀ a b c, impl_within.f a b c = spec_l01In.f a b c := fun _ _ _ => rfl
  have d1 : decide (1 ≤ a) = true := decide_eq_true ha.1
  have d2 : decide (a ≤ 10000) = true := decide_eq_true ha.2
  have d3 : decide (1 ≤ b) = true := decide_eq_true hb.1
  have d4 : decide (b ≤ 100000) = true := decide_eq_true hb.2
  have d5 : decide (0 ≤ c) = true := decide_eq_true hc.1
  have d6 : decide (c ≤ 1000) = true := decide_eq_true hc.2
  have d7 : decide (0 ≤ d) = true := decide_eq_true hd.1
  have d8 : decide (d ≤ 500) = true := decide_eq_true hd.2
  unfold spec_l03Bounds.f impl_Config_right.f
  simp only [hv, In_eq, Option.bind_some, d1, d2, d3, d4, d5, d6, d7, d8, Bool.and_self, if_true]
  exact ⟨trivial, trivial⟩
theorem shows_ge {o r t e x m g : Int} (hg : 0 ≤ g ∧ g ≤ 500) (hr : -g ≤ r) (hx : x = ((m + 1) * 1000 + 999 - g) / (1000 - g)) (hm : 0 ≤ m) (he : x ≤ e) : shows o r t + m ≤ shows o r (t + e) := by
  have h1 := Plain.late_mul hg hx
  have h2 := (Plain.late_bd hg hm hx).1
  have h3 : x * (1000 - g) ≤ e * (1000 - g) := Int.mul_le_mul_of_nonneg_right he (by omega)
  have h4 : e * (1000 - g) ≤ e * (1000 + r) := Int.mul_le_mul_of_nonneg_left (by omega) (by omega)
  have h5 := Plain.adv_ge (t := t) (e := e) (p := 1000 + r) (m := m) (by omega)
  unfold shows
  omega
theorem shows_le {o r t y m g : Int} (hg : 0 ≤ g ∧ g ≤ 500) (hr : r ≤ g) (hy : y = ((m - 1) * 1000) / (1000 + g)) (hm : 1 ≤ m) : shows o r (t + y) ≤ shows o r t + m := by
  have h1 := Plain.early_mul hg hy
  have h2 := (Plain.early_bd hg hm hy).1
  have h4 : y * (1000 + r) ≤ y * (1000 + g) := Int.mul_le_mul_of_nonneg_left (by omega) h2
  have h5 := Plain.adv_le (t := t) (e := y) (p := 1000 + r) (m := m) (by omega)
  unfold shows
  omega
theorem shows_gt {o r t e y m g : Int} (hg : 0 ≤ g ∧ g ≤ 500) (hr : -500 ≤ r ∧ r ≤ g) (hy : y = ((m - 1) * 1000) / (1000 + g)) (he : 0 ≤ e) (h : shows o r t + m ≤ shows o r (t + e)) : y < e := by
  have h1 := Plain.early_mul hg hy
  unfold shows at h
  have h5 := Plain.adv_gt (t := t) (e := e) (p := 1000 + r) (m := m) (by omega)
  have h4 : e * (1000 + r) ≤ e * (1000 + g) := Int.mul_le_mul_of_nonneg_left (by omega) he
  have h6 : y * (1000 + g) < e * (1000 + g) := by omega
  exact Int.lt_of_mul_lt_mul_right h6 (by omega)
theorem shows_mono {o r t e : Int} (hr : -500 ≤ r) (he : 0 ≤ e) : shows o r t ≤ shows o r (t + e) := by
  have h := Plain.adv_ge (t := t) (e := e) (p := 1000 + r) (m := 0) (by
    have := Int.mul_nonneg he (show 0 ≤ 1000 + r by omega)
    omega)
  unfold shows
  omega
theorem bytes_of {l : List Int} (h : ∀ x ∈ l, (fun x : Int => (Lit.int .u8 x).wf = true) x) : ∀ x ∈ l, 0 ≤ x ∧ x ≤ 255 := (source_is h).2.2.2.2.2
end Go.Proofs.Ytbdbkdfigolggaa.Pure
