/- The laws' marks, as plain functions: what marking a slice leaves, and that its marks are found again; for lists of at most 2^45 numbers. -/
import Derived.Test.YtlclbdfcniiolaaQ2
import Derived.Test.YtlclbdfcniiolaaInts
set_option linter.unusedSimpArgs false
set_option linter.unusedVariables false
namespace Go.Proofs.Ytlclbdfcniiolaa.Pure
open Go.RowKit Go.Proofs.Ytlclbdfcniiolaa.Q Go.Proofs.Ytlclbdfcniiolaa.Hand Go.Proofs.YtlclbdfcniiolaaW.PrintWords Go.Proofs.YtlclbdfcniiolaaW.PrintLast Go.Proofs.YtlclbdfcniiolaaW.PrintMore
def marks (n : Nat) : List Int := (List.range n).map (fun j : Nat => (j : Int) + 1)
theorem marks_get (n j : Nat) : (marks n)[j]? = if j < n then some ((j : Int) + 1) else none := by
  unfold marks
  rw [List.getElem?_map]
  by_cases h : j < n
  · rw [if_pos h, List.getElem?_range h]; rfl
  · rw [if_neg h, List.getElem?_eq_none (by simpa using h)]; rfl
theorem marks_length (n : Nat) : (marks n).length = n := by simp [marks]
theorem mark_loop (n : Nat) (hn : n ≤ 35184372088832) (d : Nat) : ∀ (k i : Nat) (x : List Int), x.length = n → i ≤ n → n - i = d → d < k → (∀ j, j < i → x[j]? = some ((j : Int) + 1)) → laws_markIntS.l0 k x ((i : Int) + 1) (i : Int) = some ((n : Int) + 1, marks n) := by
  induction d with
  | zero =>
    intro k i x hx hi hd hk hj
    obtain ⟨k, rfl⟩ : ∃ m, k = m + 1 := ⟨k - 1, by omega⟩
    simp only [laws_markIntS.l0]
    rw [if_neg (by omega)]
    have e : i = n := by omega
    subst e
    have : x = marks i := List.ext_getElem? (fun j => by
      rw [marks_get]
      by_cases h : j < i
      · rw [if_pos h]; exact hj j h
      · rw [if_neg h, List.getElem?_eq_none (by omega)])
    rw [this]
  | succ d ih =>
    intro k i x hx hi hd hk hj
    obtain ⟨k, rfl⟩ : ∃ m, k = m + 1 := ⟨k - 1, by omega⟩
    have hlt : i < n := by omega
    have e1 : wrap64 ((i : Int) + 1 + 1) = ((i + 1 : Nat) : Int) + 1 := by unfold wrap64; omega
    have e2 : ((i : Int)).toNat = i := by omega
    simp only [laws_markIntS.l0]
    rw [if_pos (by omega), if_pos (by omega), e1, wrap_small hlt hn, e2]
    apply ih k (i + 1) _ (by simpa using hx) (by omega) (by omega) (by omega)
    intro j hj'
    rw [List.getElem?_set]
    by_cases h : i = j
    · subst h
      rw [if_pos rfl, if_pos (by omega)]
    · rw [if_neg h]
      exact hj j (by omega)
theorem mark_eq (l : List Int) (k : Nat) (hn : l.length ≤ 35184372088832) (hk : l.length < k) : laws_markIntS.f k l 1 = some ((l.length : Int) + 1, marks l.length) := by
  unfold laws_markIntS.f
  exact mark_loop l.length hn l.length k 0 l rfl (by omega) (by omega) hk (fun j hj => absurd hj (Nat.not_lt_zero _))
theorem held_loop (n : Nat) (hn : n ≤ 35184372088832) (d : Nat) : ∀ (k i : Nat), i ≤ n → n - i = d → d < k → laws_heldIntS.l0 k (marks n) ((i : Int) + 1) (i : Int) = some ((n : Int) + 1) := by
  induction d with
  | zero =>
    intro k i hi hd hk
    obtain ⟨k, rfl⟩ : ∃ m, k = m + 1 := ⟨k - 1, by omega⟩
    have e : i = n := by omega
    subst e
    simp only [laws_heldIntS.l0]
    rw [if_neg (by rw [marks_length]; omega)]
  | succ d ih =>
    intro k i hi hd hk
    obtain ⟨k, rfl⟩ : ∃ m, k = m + 1 := ⟨k - 1, by omega⟩
    have hlt : i < n := by omega
    have e1 : wrap64 ((i : Int) + 1 + 1) = ((i + 1 : Nat) : Int) + 1 := by unfold wrap64; omega
    have e3 : rd (marks n) (i : Int) = (i : Int) + 1 := by
      rw [rd_get _ i (by rw [marks_length]; exact hlt)]
      have := marks_get n i
      rw [if_pos hlt, List.getElem?_eq_getElem (by rw [marks_length]; exact hlt)] at this
      exact Option.some.inj this
    simp only [laws_heldIntS.l0]
    rw [if_pos (by rw [marks_length]; omega), if_pos (by omega), e3, if_pos rfl, e1, wrap_small hlt hn]
    exact ih k (i + 1) (by omega) (by omega) (by omega)
theorem held_eq (n : Nat) (k : Nat) (hn : n ≤ 35184372088832) (hk : n < k) : laws_heldIntS.f k (marks n) 1 = some ((n : Int) + 1) := by
  unfold laws_heldIntS.f
  exact held_loop n hn n k 0 (by omega) (by omega) hk
end Go.Proofs.Ytlclbdfcniiolaa.Pure
