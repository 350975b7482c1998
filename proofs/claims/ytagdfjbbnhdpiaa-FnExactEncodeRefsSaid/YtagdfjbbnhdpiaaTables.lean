/- Whether counts and tables are right: the program's and the reference's test, as plain functions, tell the same; for every list. -/
import Derived.Test.YtagdfjbbnhdpiaaQ2
import Derived.Test.YtagdfjbbnhdpiaaQ3
import Derived.Test.YtagdfjbbnhdpiaaInts
set_option linter.unusedSimpArgs false
set_option linter.unusedVariables false
namespace Go.Proofs.Ytagdfjbbnhdpiaa.Pure
open Go.RowKit Go.Proofs.Ytagdfjbbnhdpiaa.Q Go.Proofs.Ytagdfjbbnhdpiaa.Hand Go.Proofs.YtagdfjbbnhdpiaaW.PrintWords Go.Proofs.YtagdfjbbnhdpiaaW.PrintLast Go.Proofs.YtagdfjbbnhdpiaaW.PrintMore
def refP (x : Int) : Bool := decide (0 ≤ x) && decide (x ≤ 15)
def tabP (x : Int) : Bool := decide (0 ≤ x) && decide (x ≤ 25)
theorem refs_loop (l : List Int) (hn : l.length ≤ 35184372088832) (d : Nat) : ∀ (k i : Nat), i ≤ l.length → l.length - i = d → d < k → spec_RefsOK.l0 k l (i : Int) = some ((l.drop i).all refP && ((l.length : Int) == 24)) := by
  induction d with
  | zero =>
    intro k i hi hd hk
    obtain ⟨k, rfl⟩ : ∃ m, k = m + 1 := ⟨k - 1, by omega⟩
    simp only [spec_RefsOK.l0]
    rw [if_neg (by omega), List.drop_eq_nil_of_le (by omega)]
    simp
  | succ d ih =>
    intro k i hi hd hk
    obtain ⟨k, rfl⟩ : ∃ m, k = m + 1 := ⟨k - 1, by omega⟩
    have hlt : i < l.length := by omega
    simp only [spec_RefsOK.l0]
    rw [if_pos (by omega), if_pos (by omega), rd_get l i hlt, InR_eq, List.drop_eq_getElem_cons hlt, List.all_cons, wrap_small hlt hn, ih k (i + 1) (by omega) (by omega) (by omega)]
    have e : refP l[i] = (decide (0 ≤ l[i]) && decide (l[i] ≤ 15)) := rfl
    rw [e]
    simp only [Option.bind_some]
    cases (decide (0 ≤ l[i]) && decide (l[i] ≤ 15)) <;> simp
theorem table_loop (l : List Int) (hn : l.length ≤ 35184372088832) (d : Nat) : ∀ (k i : Nat), i ≤ l.length → l.length - i = d → d < k → spec_TableOK.l0 k l (i : Int) = some ((l.drop i).all tabP && decide ((l.length : Int) ≤ 12)) := by
  induction d with
  | zero =>
    intro k i hi hd hk
    obtain ⟨k, rfl⟩ : ∃ m, k = m + 1 := ⟨k - 1, by omega⟩
    simp only [spec_TableOK.l0]
    rw [if_neg (by omega), List.drop_eq_nil_of_le (by omega)]
    simp
  | succ d ih =>
    intro k i hi hd hk
    obtain ⟨k, rfl⟩ : ∃ m, k = m + 1 := ⟨k - 1, by omega⟩
    have hlt : i < l.length := by omega
    simp only [spec_TableOK.l0]
    rw [if_pos (by omega), if_pos (by omega), rd_get l i hlt, InR_eq, List.drop_eq_getElem_cons hlt, List.all_cons, wrap_small hlt hn, ih k (i + 1) (by omega) (by omega) (by omega)]
    have e : tabP l[i] = (decide (0 ≤ l[i]) && decide (l[i] ≤ 25)) := rfl
    rw [e]
    simp only [Option.bind_some]
    cases (decide (0 ≤ l[i]) && decide (l[i] ≤ 25)) <;> simp
/-- What both tell of counts. -/
def refsB (l : List Int) : Bool := decide (l.length = 24) && l.all refP
def tableB (l : List Int) : Bool := decide (l.length ≤ 12) && l.all tabP
theorem spec_refs (l : List Int) (k : Nat) (hk : 4096 < k) : spec_RefsOK.f k l = some (refsB l) := by
  unfold spec_RefsOK.f refsB
  by_cases h : (l.length : Int) > 4096
  · rw [if_pos h]
    have : decide (l.length = 24) = false := decide_eq_false (by omega)
    rw [this]; rfl
  · rw [if_neg h]
    refine (refs_loop l (by omega) l.length k 0 (by omega) (by omega) (by omega)).trans ?_
    by_cases h2 : l.length = 24
    · have h3 : ((l.length : Int) == 24) = true := by simp; omega
      simp [h2, h3]
    · have h3 : ((l.length : Int) == 24) = false := by simp; omega
      simp [h2, h3]
theorem impl_refs (l : List Int) : impl_RefsOK.f l = some (refsB l) := by
  have e : impl_all_int.f l fn_RefsOK = some (l.all refP) := rfl
  unfold impl_RefsOK.f refsB
  rw [e]
  by_cases h : l.length = 24
  · rw [if_pos (by omega)]; simp [h]
  · rw [if_neg (by omega)]; simp [h]
theorem spec_table (l : List Int) (k : Nat) (hk : 4096 < k) : spec_TableOK.f k l = some (tableB l) := by
  unfold spec_TableOK.f tableB
  by_cases h : (l.length : Int) > 4096
  · rw [if_pos h]
    have : decide (l.length ≤ 12) = false := decide_eq_false (by omega)
    rw [this]; rfl
  · rw [if_neg h]
    refine (table_loop l (by omega) l.length k 0 (by omega) (by omega) (by omega)).trans ?_
    by_cases h2 : l.length ≤ 12
    · have h3 : decide ((l.length : Int) ≤ 12) = true := decide_eq_true (by omega)
      simp [h2, h3]
    · have h3 : decide ((l.length : Int) ≤ 12) = false := decide_eq_false (by omega)
      simp [h2, h3]
theorem impl_table (l : List Int) : impl_TableOK.f l = some (tableB l) := by
  have e : impl_all_int.f l fn_TableOK = some (l.all tabP) := rfl
  unfold impl_TableOK.f tableB
  rw [e]
  by_cases h : l.length ≤ 12
  · rw [if_pos (by omega)]; simp [h]
  · rw [if_neg (by omega)]; simp [h]
end Go.Proofs.Ytagdfjbbnhdpiaa.Pure
