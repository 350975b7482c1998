/- How numbers are packed: the program's and the reference's packing, as plain functions; for lists of at most 4096 numbers. -/
import Derived.Test.YtagdfjbbnhdpiaaQ1
import Derived.Test.YtagdfjbbnhdpiaaRd
set_option linter.unusedSimpArgs false
set_option linter.unusedVariables false
namespace Go.Proofs.Ytagdfjbbnhdpiaa.Pure
open Go.RowKit Go.Proofs.Ytagdfjbbnhdpiaa.Q Go.Proofs.Ytagdfjbbnhdpiaa.Hand Go.Proofs.YtagdfjbbnhdpiaaW.PrintWords Go.Proofs.YtagdfjbbnhdpiaaW.PrintLast Go.Proofs.YtagdfjbbnhdpiaaW.PrintMore
def bytes4 (x : Int) : List Int := [x % 256, x / 256 % 256, x / 65536 % 256, x / 16777216 % 256]
def packed (l : List Int) : List Int := l.flatMap bytes4
theorem packed_len (l : List Int) : (packed l).length = 4 * l.length := by
  induction l with
  | nil => rfl
  | cons x l ih => simp only [packed, List.flatMap_cons, List.length_append, List.length_cons] at ih ⊢; rw [ih]; simp [bytes4]; omega
theorem pack_inner (l s : List Int) (i x : Int) (k : Nat) (hs : s.length ≤ 100000) : spec_l02Pack.l1 (k + 5) l s i x 0 = spec_l02Pack.l0 k l (s ++ bytes4 x) (wrap64 (i + 1)) := by
  have w1 : wrap64 (0 + 1) = 1 := by unfold wrap64; omega
  have w2 : wrap64 (1 + 1) = 2 := by unfold wrap64; omega
  have w3 : wrap64 (2 + 1) = 3 := by unfold wrap64; omega
  have w4 : wrap64 (3 + 1) = 4 := by unfold wrap64; omega
  have q2 : x / 256 / 256 = x / 65536 := by omega
  have q3 : x / 65536 / 256 = x / 16777216 := by omega
  simp only [spec_l02Pack.l1, w1, w2, w3, w4, List.length_append, List.length_cons, List.length_nil, q2, q3]
  rw [if_pos (by omega), if_pos (by omega), if_pos (by omega), if_pos (by omega), if_pos (by omega), if_pos (by omega), if_pos (by omega), if_pos (by omega), if_neg (by omega)]
  simp only [List.append_assoc, List.cons_append, List.nil_append, bytes4]
theorem pack_spec_loop (l : List Int) (hn : l.length ≤ 4096) (d : Nat) : ∀ (k i : Nat) (s : List Int), s.length = 4 * i → i ≤ l.length → l.length - i = d → 6 * d < k → spec_l02Pack.l0 k l s (i : Int) = some (strOfNums (s ++ packed (l.drop i))) := by
  induction d with
  | zero =>
    intro k i s hs hi hd hk
    obtain ⟨k, rfl⟩ : ∃ m, k = m + 1 := ⟨k - 1, by omega⟩
    simp only [spec_l02Pack.l0]
    rw [if_neg (by omega), List.drop_eq_nil_of_le (by omega)]
    simp [packed]
  | succ d ih =>
    intro k i s hs hi hd hk
    obtain ⟨k, rfl⟩ : ∃ m, k = m + 6 := ⟨k - 6, by omega⟩
    have hlt : i < l.length := by omega
    have hb : (bytes4 l[i]).length = 4 := rfl
    simp only [spec_l02Pack.l0]
    rw [if_pos (by omega), if_pos (by omega), rd_get l i hlt, pack_inner l s _ _ _ (by omega), wrap_small hlt (by omega), List.drop_eq_getElem_cons hlt]
    have := ih k (i + 1) (s ++ bytes4 l[i]) (by simp only [List.length_append, hb, hs]; omega) (by omega) (by omega) (by omega)
    rw [this, List.append_assoc]
    rfl
theorem pack_impl_loop (l : List Int) (hn : l.length ≤ 4096) (d : Nat) : ∀ (k i : Nat) (s : List Int), s.length = 4 * i → i ≤ l.length → l.length - i = d → d < k → impl_pack.l0 k s l (l.length : Int) (i : Int) = some (strOfNums (s ++ packed (l.drop i))) := by
  induction d with
  | zero =>
    intro k i s hs hi hd hk
    obtain ⟨k, rfl⟩ : ∃ m, k = m + 1 := ⟨k - 1, by omega⟩
    simp only [impl_pack.l0]
    rw [if_neg (by omega), List.drop_eq_nil_of_le (by omega)]
    simp [packed]
  | succ d ih =>
    intro k i s hs hi hd hk
    obtain ⟨k, rfl⟩ : ∃ m, k = m + 1 := ⟨k - 1, by omega⟩
    have hlt : i < l.length := by omega
    have hb : (bytes4 l[i]).length = 4 := rfl
    simp only [impl_pack.l0, Option.bind_some, List.length_cons, List.length_nil]
    rw [if_pos (by omega), if_pos (by omega), if_pos (by omega), if_pos (by omega), rd_get l i hlt, wrap_small hlt (by omega), List.drop_eq_getElem_cons hlt]
    have := ih k (i + 1) (s ++ bytes4 l[i]) (by simp only [List.length_append, hb, hs]; omega) (by omega) (by omega) (by omega)
    have e : s ++ packed (l[i] :: l.drop (i + 1)) = s ++ bytes4 l[i] ++ packed (l.drop (i + 1)) := by rw [List.append_assoc]; rfl
    rw [e]
    exact this
theorem pack_spec (l : List Int) (k : Nat) (hn : l.length ≤ 4096) (hk : 24576 < k) : spec_l02Pack.f k l = some (strOfNums (packed l)) :=
  pack_spec_loop l hn l.length k 0 [] rfl (by omega) (by omega) (by omega)
theorem pack_impl (l : List Int) (k : Nat) (hn : l.length ≤ 4096) (hk : 24576 < k) : impl_pack.f k l = some (strOfNums (packed l)) :=
  pack_impl_loop l hn l.length k 0 [] rfl (by omega) (by omega) (by omega)
end Go.Proofs.Ytagdfjbbnhdpiaa.Pure
