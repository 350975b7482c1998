/- Loops over slices of numbers in the laws, as plain functions: copying and comparing; for lists of at most 2^45 numbers. -/
import Derived.Test.YtlclbdfcniiolaaQ1
import Derived.Test.YtlclbdfcniiolaaQ2
import Derived.Test.YtlclbdfcniiolaaRd
set_option linter.unusedSimpArgs false
set_option linter.unusedVariables false
namespace Go.Proofs.Ytlclbdfcniiolaa.Pure
open Go.RowKit Go.Proofs.Ytlclbdfcniiolaa.Q Go.Proofs.Ytlclbdfcniiolaa.Hand Go.Proofs.YtlclbdfcniiolaaW.PrintWords Go.Proofs.YtlclbdfcniiolaaW.PrintLast Go.Proofs.YtlclbdfcniiolaaW.PrintMore
theorem toIntS_loop (l : List Int) (hn : l.length ≤ 35184372088832) (d : Nat) : ∀ (k i : Nat) (x : List Int), i ≤ l.length → l.length - i = d → d < k → x.length = l.length → (∀ j, j < i → x[j]? = l[j]?) → laws_toIntS.l0 k l x (i : Int) = some l := by
  induction d with
  | zero =>
    intro k i x hi hd hk hx hj
    obtain ⟨k, rfl⟩ : ∃ m, k = m + 1 := ⟨k - 1, by omega⟩
    simp only [laws_toIntS.l0]
    rw [if_neg (by omega)]
    have : x = l := List.ext_getElem? (fun j => by
      by_cases h : j < i
      · exact hj j h
      · rw [List.getElem?_eq_none (by omega), List.getElem?_eq_none (by omega)])
    rw [this]
  | succ d ih =>
    intro k i x hi hd hk hx hj
    obtain ⟨k, rfl⟩ : ∃ m, k = m + 1 := ⟨k - 1, by omega⟩
    have hlt : i < l.length := by omega
    simp only [laws_toIntS.l0]
    rw [if_pos (by omega), if_pos (by omega), if_pos (by omega), wrap_small hlt hn]
    apply ih k (i + 1) _ (by omega) (by omega) (by omega) (by simpa using hx)
    intro j hj'
    have e2 : ((i : Int)).toNat = i := by omega
    rw [rd_get l i hlt, e2, List.getElem?_set]
    by_cases h : i = j
    · subst h
      rw [if_pos rfl, if_pos (by omega), List.getElem?_eq_getElem hlt]
    · rw [if_neg h]
      exact hj j (by omega)
theorem toIntS_eq (l : List Int) (k : Nat) (hn : l.length ≤ 35184372088832) (hk : l.length < k) : laws_toIntS.f k l = some l := by
  unfold laws_toIntS.f
  have e : ((l.length : Int) : Int).toNat = l.length := by omega
  rw [if_pos (by omega), e, if_pos hn]
  exact toIntS_loop l hn l.length k 0 _ (by omega) (by omega) hk (by simp) (fun j hj => absurd hj (Nat.not_lt_zero _))
theorem eqIntS_loop (a b : List Int) (hab : a.length = b.length) (hn : a.length ≤ 35184372088832) (d : Nat) : ∀ (k i : Nat), i ≤ a.length → a.length - i = d → d < k → laws_eqIntS.l0 k a b (i : Int) = some (decide (a.drop i = b.drop i)) := by
  induction d with
  | zero =>
    intro k i hi hd hk
    obtain ⟨k, rfl⟩ : ∃ m, k = m + 1 := ⟨k - 1, by omega⟩
    simp only [laws_eqIntS.l0]
    rw [if_neg (by omega), List.drop_eq_nil_of_le (by omega), List.drop_eq_nil_of_le (by omega)]
    simp
  | succ d ih =>
    intro k i hi hd hk
    obtain ⟨k, rfl⟩ : ∃ m, k = m + 1 := ⟨k - 1, by omega⟩
    have hlt : i < a.length := by omega
    have hlt' : i < b.length := by omega
    simp only [laws_eqIntS.l0]
    rw [if_pos (by omega), if_pos (by omega), if_pos (by omega), rd_get a i hlt, rd_get b i hlt', List.drop_eq_getElem_cons hlt, List.drop_eq_getElem_cons hlt', wrap_small hlt hn]
    by_cases h : a[i] = b[i]
    · rw [if_pos h, ih k (i + 1) (by omega) (by omega) (by omega), h]
      simp only [List.cons.injEq, true_and]
    · rw [if_neg h]
      simp only [List.cons.injEq, h, false_and, decide_false]
theorem eqIntS_eq (a b : List Int) (k : Nat) (hn : a.length ≤ 35184372088832) (hk : a.length < k) : laws_eqIntS.f k a b = some (decide (a = b)) := by
  unfold laws_eqIntS.f
  by_cases h : a.length = b.length
  · rw [if_pos (by omega)]
    exact eqIntS_loop a b h hn a.length k 0 (by omega) (by omega) hk
  · rw [if_neg (by omega)]
    have : ¬ a = b := fun e => h (by rw [e])
    simp [this]
theorem eqIntS_self (a : List Int) (k : Nat) (hn : a.length ≤ 35184372088832) (hk : a.length < k) : laws_eqIntS.f k a a = some true := by
  rw [eqIntS_eq a a k hn hk]; simp
end Go.Proofs.Ytlclbdfcniiolaa.Pure
