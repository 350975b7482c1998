/- How a record is sealed: the program's and the reference's sealing, as plain functions, give the same; for lists of at most 4096 numbers. -/
import Derived.Test.YtagdfjbbnhdpiaaQ1
import Derived.Test.YtagdfjbbnhdpiaaPack
set_option linter.unusedSimpArgs false
set_option linter.unusedVariables false
namespace Go.Proofs.Ytagdfjbbnhdpiaa.Pure
open Go.RowKit Go.Proofs.Ytagdfjbbnhdpiaa.Q Go.Proofs.Ytagdfjbbnhdpiaa.Hand Go.Proofs.YtagdfjbbnhdpiaaW.PrintWords Go.Proofs.YtagdfjbbnhdpiaaW.PrintLast Go.Proofs.YtagdfjbbnhdpiaaW.PrintMore
theorem sum_loops2 (b : ByteArray) (hn : b.size ≤ 100000) (d : Nat) : ∀ (k i : Nat) (s : Int), i ≤ b.size → b.size - i = d → d < k → ∃ r, spec_l02Sum.l0 k b s (i : Int) = some r ∧ impl_sumOf.l0 k b s (b.size : Int) (i : Int) = some r := by
  induction d with
  | zero =>
    intro k i s hi hd hk
    obtain ⟨k, rfl⟩ : ∃ m, k = m + 1 := ⟨k - 1, by omega⟩
    have c1 : ¬ (i : Int) < (b.size : Int) := by omega
    simp only [spec_l02Sum.l0, impl_sumOf.l0, if_neg c1]
    exact ⟨s, rfl, rfl⟩
  | succ d ih =>
    intro k i s hi hd hk
    obtain ⟨k, rfl⟩ : ∃ m, k = m + 1 := ⟨k - 1, by omega⟩
    have hlt : i < b.size := by omega
    have c1 : (i : Int) < (b.size : Int) := by omega
    have c2 : (0 : Int) ≤ (i : Int) := by omega
    simp only [spec_l02Sum.l0, impl_sumOf.l0, if_pos c1, if_pos c2]
    rw [wrap_small hlt (by omega)]
    exact ih k (i + 1) _ (by omega) (by omega) (by omega)
theorem size_strOfNums (l : List Int) : (strOfNums l).size = l.length := by
  simp [strOfNums, ByteArray.size]
theorem seal_same (a : Int) (l : List Int) (k : Nat) (hn : l.length ≤ 4096) (hk : 100000 < k) : ∃ r, spec_l02Seal.f k a l = some r ∧ impl_seal.f k a l = some r := by
  have hp := packed_len l
  have hz : (strOfNums [a % 256, (l.length : Int) % 256] ++ strOfNums (packed l)).size = 2 + 4 * l.length := by
    rw [ByteArray.size_append, size_strOfNums, size_strOfNums, hp]; rfl
  obtain ⟨r, e1, e2⟩ := sum_loops2 (strOfNums [a % 256, (l.length : Int) % 256] ++ strOfNums (packed l)) (by omega) _ k 0 0 (by omega) rfl (by omega)
  have e1' : spec_l02Sum.f k (strOfNums [a % 256, (l.length : Int) % 256] ++ strOfNums (packed l)) = some r := e1
  have e2' : impl_sumOf.f k (strOfNums [a % 256, (l.length : Int) % 256] ++ strOfNums (packed l)) = some r := e2
  unfold spec_l02Seal.f impl_seal.f
  simp only [pack_spec l k hn (by omega), pack_impl l k hn (by omega), Option.bind_some, e1', e2', ByteArray.size_append, size_strOfNums, hp, List.length_cons, List.length_nil]
  rw [if_pos (by omega), if_pos (by omega), if_pos (by omega)]
  exact ⟨_, rfl, rfl⟩
end Go.Proofs.Ytagdfjbbnhdpiaa.Pure
