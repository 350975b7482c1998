/- Whether numbers are numbers of the store: the program's and the reference's test, as plain functions; for lists of at most 2^45 numbers. -/
import Derived.Test.YtpgiklbaoikogaaQ1
import Derived.Test.YtpgiklbaoikogaaRd
set_option linter.unusedSimpArgs false
set_option linter.unusedVariables false
namespace Go.Proofs.Ytpgiklbaoikogaa.Pure
open Go.RowKit Go.Proofs.Ytpgiklbaoikogaa.Q Go.Proofs.Ytpgiklbaoikogaa.Hand Go.Proofs.YtpgiklbaoikogaaW.PrintWords Go.Proofs.YtpgiklbaoikogaaW.PrintLast Go.Proofs.YtpgiklbaoikogaaW.PrintMore
def numP (x : Int) : Bool := decide (0 ≤ x) && decide (x ≤ 2147483647)
def intsB (l : List Int) : Bool := decide (l.length ≤ 16) && l.all numP
theorem ints_loop (l : List Int) (hn : l.length ≤ 35184372088832) (d : Nat) : ∀ (k i : Nat), i ≤ l.length → l.length - i = d → d < k → spec_l02Ints.l0 k l (i : Int) = some ((l.drop i).all numP && decide ((l.length : Int) ≤ 16)) := by
  induction d with
  | zero =>
    intro k i hi hd hk
    obtain ⟨k, rfl⟩ : ∃ m, k = m + 1 := ⟨k - 1, by omega⟩
    simp only [spec_l02Ints.l0]
    rw [if_neg (by omega), List.drop_eq_nil_of_le (by omega)]
    simp
  | succ d ih =>
    intro k i hi hd hk
    obtain ⟨k, rfl⟩ : ∃ m, k = m + 1 := ⟨k - 1, by omega⟩
    have hlt : i < l.length := by omega
    simp only [spec_l02Ints.l0, spec_l02Int.f]
    rw [if_pos (by omega), if_pos (by omega), rd_get l i hlt, InR_eq, List.drop_eq_getElem_cons hlt, List.all_cons, wrap_small hlt hn, ih k (i + 1) (by omega) (by omega) (by omega)]
    have e : numP l[i] = (decide (0 ≤ l[i]) && decide (l[i] ≤ 2147483647)) := rfl
    rw [e]
    simp only [Option.bind_some]
    cases (decide (0 ≤ l[i]) && decide (l[i] ≤ 2147483647)) <;> simp
theorem spec_ints (l : List Int) (k : Nat) (hn : l.length ≤ 35184372088832) (hk : l.length < k) : spec_l02Ints.f k l = some (intsB l) := by
  unfold spec_l02Ints.f intsB
  refine (ints_loop l hn l.length k 0 (by omega) (by omega) (by omega)).trans ?_
  by_cases h2 : l.length ≤ 16
  · have h3 : decide ((l.length : Int) ≤ 16) = true := decide_eq_true (by omega)
    simp [h2, h3]
  · have h3 : decide ((l.length : Int) ≤ 16) = false := decide_eq_false (by omega)
    simp [h2, h3]
theorem impl_ints (l : List Int) : impl_areInts.f l = some (intsB l) := by
  have e : impl_all_int.f l fn_isNumber = some (l.all numP) := rfl
  unfold impl_areInts.f intsB
  rw [e]
  by_cases h : l.length ≤ 16
  · rw [if_pos (by omega)]; simp [h]
  · rw [if_neg (by omega)]; simp [h]
theorem ints_len {l : List Int} (h : intsB l = true) : l.length ≤ 16 := by
  unfold intsB at h
  simp only [Bool.and_eq_true, decide_eq_true_eq] at h
  exact h.1
end Go.Proofs.Ytpgiklbaoikogaa.Pure
