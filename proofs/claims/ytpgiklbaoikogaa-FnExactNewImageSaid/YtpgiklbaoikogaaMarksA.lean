/- The laws' marks from any number on, as plain functions: what marking a slice leaves, and that its marks are found again; for lists of at most 2^45 numbers and starts up to 2^40. -/
import Derived.Test.YtpgiklbaoikogaaQ2
import Derived.Test.YtpgiklbaoikogaaRd
set_option linter.unusedSimpArgs false
set_option linter.unusedVariables false
namespace Go.Proofs.Ytpgiklbaoikogaa.Pure
open Go.RowKit Go.Proofs.Ytpgiklbaoikogaa.Q Go.Proofs.Ytpgiklbaoikogaa.Hand Go.Proofs.YtpgiklbaoikogaaW.PrintWords Go.Proofs.YtpgiklbaoikogaaW.PrintLast Go.Proofs.YtpgiklbaoikogaaW.PrintMore
def marksI (a : Int) (n : Nat) : List Int := (List.range n).map (fun j : Nat => a + (j : Int))
theorem marksI_get (a : Int) (n j : Nat) : (marksI a n)[j]? = if j < n then some (a + (j : Int)) else none := by
  unfold marksI
  rw [List.getElem?_map]
  by_cases h : j < n
  · rw [if_pos h, List.getElem?_range h]; rfl
  · rw [if_neg h, List.getElem?_eq_none (by simpa using h)]; rfl
theorem marksI_length (a : Int) (n : Nat) : (marksI a n).length = n := by simp [marksI]
theorem markI_loop (a : Int) (a0 : 0 ≤ a) (a1 : a ≤ 1099511627776) (n : Nat) (hn : n ≤ 35184372088832) (d : Nat) : ∀ (k i : Nat) (x : List Int), x.length = n → i ≤ n → n - i = d → d < k → (∀ j, j < i → x[j]? = some (a + (j : Int))) → laws_markIntS.l0 k x (a + (i : Int)) (i : Int) = some (a + (n : Int), marksI a n) := by
  induction d with
  | zero =>
    intro k i x hx hi hd hk hj
    obtain ⟨k, rfl⟩ : ∃ m, k = m + 1 := ⟨k - 1, by omega⟩
    simp only [laws_markIntS.l0]
    rw [if_neg (by omega)]
    have e : i = n := by omega
    subst e
    have : x = marksI a i := List.ext_getElem? (fun j => by
      rw [marksI_get]
      by_cases h : j < i
      · rw [if_pos h]; exact hj j h
      · rw [if_neg h, List.getElem?_eq_none (by omega)])
    rw [this]
  | succ d ih =>
    intro k i x hx hi hd hk hj
    obtain ⟨k, rfl⟩ : ∃ m, k = m + 1 := ⟨k - 1, by omega⟩
    have hlt : i < n := by omega
    have e1 : wrap64 (a + (i : Int) + 1) = a + ((i + 1 : Nat) : Int) := by unfold wrap64; omega
    have e2 : ((i : Int)).toNat = i := by omega
    simp only [laws_markIntS.l0]
    rw [if_pos (by omega), if_pos (by omega), e1, wrap_small hlt hn, e2]
    apply ih k (i + 1) _ (by simpa using hx) (by omega) (by omega) (by omega)
    intro j hj'
    rw [List.getElem?_set]
    by_cases h : i = j
    · subst h
      rw [if_pos rfl, if_pos (by omega)]
    · rw [if_neg h]
      exact hj j (by omega)
theorem markI_eq (l : List Int) (a : Int) (a0 : 0 ≤ a) (a1 : a ≤ 1099511627776) (k : Nat) (hn : l.length ≤ 35184372088832) (hk : l.length < k) : laws_markIntS.f k l a = some (a + (l.length : Int), marksI a l.length) := by
  unfold laws_markIntS.f
  have := markI_loop a a0 a1 l.length hn l.length k 0 l rfl (by omega) (by omega) hk (fun j hj => absurd hj (Nat.not_lt_zero _))
  have e : a + ((0 : Nat) : Int) = a := by omega
  rw [e] at this
  exact this
theorem heldI_loop (a : Int) (a0 : 0 ≤ a) (a1 : a ≤ 1099511627776) (n : Nat) (hn : n ≤ 35184372088832) (d : Nat) : ∀ (k i : Nat), i ≤ n → n - i = d → d < k → laws_heldIntS.l0 k (marksI a n) (a + (i : Int)) (i : Int) = some (a + (n : Int)) := by
  induction d with
  | zero =>
    intro k i hi hd hk
    obtain ⟨k, rfl⟩ : ∃ m, k = m + 1 := ⟨k - 1, by omega⟩
    have e : i = n := by omega
    subst e
    simp only [laws_heldIntS.l0]
    rw [if_neg (by rw [marksI_length]; omega)]
  | succ d ih =>
    intro k i hi hd hk
    obtain ⟨k, rfl⟩ : ∃ m, k = m + 1 := ⟨k - 1, by omega⟩
    have hlt : i < n := by omega
    have e1 : wrap64 (a + (i : Int) + 1) = a + ((i + 1 : Nat) : Int) := by unfold wrap64; omega
    have e3 : rd (marksI a n) (i : Int) = a + (i : Int) := by
      rw [rd_get _ i (by rw [marksI_length]; exact hlt)]
      have := marksI_get a n i
      rw [if_pos hlt, List.getElem?_eq_getElem (by rw [marksI_length]; exact hlt)] at this
      exact Option.some.inj this
    simp only [laws_heldIntS.l0]
    rw [if_pos (by rw [marksI_length]; omega), if_pos (by omega), e3, if_pos rfl, e1, wrap_small hlt hn]
    exact ih k (i + 1) (by omega) (by omega) (by omega)
theorem heldI_eq (a : Int) (a0 : 0 ≤ a) (a1 : a ≤ 1099511627776) (n : Nat) (k : Nat) (hn : n ≤ 35184372088832) (hk : n < k) : laws_heldIntS.f k (marksI a n) a = some (a + (n : Int)) := by
  unfold laws_heldIntS.f
  have := heldI_loop a a0 a1 n hn n k 0 (by omega) (by omega) hk
  have e : a + ((0 : Nat) : Int) = a := by omega
  rw [e] at this
  exact this
end Go.Proofs.Ytpgiklbaoikogaa.Pure
