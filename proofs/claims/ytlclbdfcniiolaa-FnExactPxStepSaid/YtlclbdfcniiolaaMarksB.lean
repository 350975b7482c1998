/- The laws' marks on blocks, as plain functions: what marking leaves, and that the marks are found again; for lists of at most 2^40 blocks. -/
import Derived.Test.YtlclbdfcniiolaaQ9
import Derived.Test.YtlclbdfcniiolaaRd
set_option linter.unusedSimpArgs false
set_option linter.unusedVariables false
namespace Go.Proofs.Ytlclbdfcniiolaa.Pure
open Go.RowKit Go.Proofs.Ytlclbdfcniiolaa.Q Go.Proofs.Ytlclbdfcniiolaa.Hand Go.Proofs.YtlclbdfcniiolaaW.PrintWords Go.Proofs.YtlclbdfcniiolaaW.PrintLast Go.Proofs.YtlclbdfcniiolaaW.PrintMore
def mkB (j : Nat) : S53 := ⟨4 * (j : Int) + 1, 4 * (j : Int) + 2, 4 * (j : Int) + 3, 4 * (j : Int) + 4⟩
def marksB (n : Nat) : List S53 := (List.range n).map mkB
theorem marksB_get (n j : Nat) : (marksB n)[j]? = if j < n then some (mkB j) else none := by
  unfold marksB
  rw [List.getElem?_map]
  by_cases h : j < n
  · rw [if_pos h, List.getElem?_range h]; rfl
  · rw [if_neg h, List.getElem?_eq_none (by simpa using h)]; rfl
theorem marksB_length (n : Nat) : (marksB n).length = n := by simp [marksB]
theorem rdb_set (l : List S53) (i : Nat) (y : S53) (h : i < l.length) : rd_T53 (l.set ((i : Int)).toNat y) (i : Int) = y := by
  have e : ((i : Int)).toNat = i := by omega
  rw [e]
  simp [rd_T53, List.getD_eq_getElem?_getD, h]
theorem markB_loop (n : Nat) (hn : n ≤ 1099511627776) (d : Nat) : ∀ (k i : Nat) (x : List S53), x.length = n → i ≤ n → n - i = d → d < k → (∀ j, j < i → x[j]? = some (mkB j)) → laws_markBlockS.l0 k x (4 * (i : Int) + 1) (i : Int) = some (4 * (n : Int) + 1, marksB n) := by
  induction d with
  | zero =>
    intro k i x hx hi hd hk hj
    obtain ⟨k, rfl⟩ : ∃ m, k = m + 1 := ⟨k - 1, by omega⟩
    simp only [laws_markBlockS.l0]
    rw [if_neg (by omega)]
    have e : i = n := by omega
    subst e
    have : x = marksB i := List.ext_getElem? (fun j => by
      rw [marksB_get]
      by_cases h : j < i
      · rw [if_pos h]; exact hj j h
      · rw [if_neg h, List.getElem?_eq_none (by omega)])
    rw [this]
  | succ d ih =>
    intro k i x hx hi hd hk hj
    obtain ⟨k, rfl⟩ : ∃ m, k = m + 1 := ⟨k - 1, by omega⟩
    have hlt : i < n := by omega
    have e1 : wrap64 (4 * (i : Int) + 1 + 1) = 4 * (i : Int) + 2 := by unfold wrap64; omega
    have e2 : wrap64 (4 * (i : Int) + 2 + 1) = 4 * (i : Int) + 3 := by unfold wrap64; omega
    have e3 : wrap64 (4 * (i : Int) + 3 + 1) = 4 * (i : Int) + 4 := by unfold wrap64; omega
    have e4 : wrap64 (4 * (i : Int) + 4 + 1) = 4 * ((i + 1 : Nat) : Int) + 1 := by unfold wrap64; omega
    have e5 : ((i : Int)).toNat = i := by omega
    simp only [laws_markBlockS.l0, Option.bind_some]
    rw [if_pos (by omega), if_pos (by omega)]
    simp only [rdb_set x i _ (by omega), rdb_set (x.set ((i : Int)).toNat _) i _ (by simp; omega), List.set_set, e1, e2, e3, e4, wrap_small hlt (by omega)]
    apply ih k (i + 1) _ (by simpa using hx) (by omega) (by omega) (by omega)
    intro j hj'
    rw [e5, List.getElem?_set]
    by_cases h : i = j
    · subst h
      rw [if_pos rfl, if_pos (by omega)]
      rfl
    · rw [if_neg h]
      exact hj j (by omega)
theorem markB_eq (l : List S53) (k : Nat) (hn : l.length ≤ 1099511627776) (hk : l.length < k) : laws_markBlockS.f k l 1 = some (4 * (l.length : Int) + 1, marksB l.length) := by
  unfold laws_markBlockS.f
  exact markB_loop l.length hn l.length k 0 l rfl (by omega) (by omega) hk (fun j hj => absurd hj (Nat.not_lt_zero _))
theorem rdb_marks (n i : Nat) (h : i < n) : rd_T53 (marksB n) (i : Int) = mkB i := by
  have e : ((i : Int)).toNat = i := by omega
  unfold rd_T53
  rw [e, List.getD_eq_getElem?_getD, marksB_get, if_pos h]
  rfl
theorem heldB_loop (n : Nat) (hn : n ≤ 1099511627776) (d : Nat) : ∀ (k i : Nat), i ≤ n → n - i = d → d < k → laws_heldBlockS.l0 k (marksB n) (4 * (i : Int) + 1) (i : Int) = some (4 * (n : Int) + 1) := by
  induction d with
  | zero =>
    intro k i hi hd hk
    obtain ⟨k, rfl⟩ : ∃ m, k = m + 1 := ⟨k - 1, by omega⟩
    have e : i = n := by omega
    subst e
    simp only [laws_heldBlockS.l0]
    rw [if_neg (by rw [marksB_length]; omega)]
  | succ d ih =>
    intro k i hi hd hk
    obtain ⟨k, rfl⟩ : ∃ m, k = m + 1 := ⟨k - 1, by omega⟩
    have hlt : i < n := by omega
    have e1 : wrap64 (4 * (i : Int) + 1 + 1) = 4 * (i : Int) + 2 := by unfold wrap64; omega
    have e2 : wrap64 (4 * (i : Int) + 2 + 1) = 4 * (i : Int) + 3 := by unfold wrap64; omega
    have e3 : wrap64 (4 * (i : Int) + 3 + 1) = 4 * (i : Int) + 4 := by unfold wrap64; omega
    have e4 : wrap64 (4 * (i : Int) + 4 + 1) = 4 * ((i + 1 : Nat) : Int) + 1 := by unfold wrap64; omega
    simp only [laws_heldBlockS.l0, rdb_marks n i hlt, mkB, e1, e2, e3, e4, wrap_small hlt (by omega), if_true]
    rw [if_pos (by rw [marksB_length]; omega), if_pos (by omega)]
    exact ih k (i + 1) (by omega) (by omega) (by omega)
theorem heldB_eq (n : Nat) (k : Nat) (hn : n ≤ 1099511627776) (hk : n < k) : laws_heldBlockS.f k (marksB n) 1 = some (4 * (n : Int) + 1) := by
  unfold laws_heldBlockS.f
  exact heldB_loop n hn n k 0 (by omega) (by omega) hk
end Go.Proofs.Ytlclbdfcniiolaa.Pure
