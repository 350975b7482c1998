/- The program's ClustersOf and the reference's give the same for every list of at most 1048576 numbers (the law's own guard). -/
import Derived.Test.YtagdfjbbnhdpiaaQ16
import Derived.Test.YtagdfjbbnhdpiaaTables
import Derived.Test.YtagdfjbbnhdpiaaFirsts
import Derived.Test.YtagdfjbbnhdpiaaMarks
set_option linter.unusedSimpArgs false
set_option linter.unusedVariables false
namespace Go.Proofs.Ytagdfjbbnhdpiaa.Pure
open Go.RowKit Go.Proofs.Ytagdfjbbnhdpiaa.Q Go.Proofs.Ytagdfjbbnhdpiaa.Hand Go.Proofs.YtagdfjbbnhdpiaaW.PrintWords Go.Proofs.YtagdfjbbnhdpiaaW.PrintLast Go.Proofs.YtagdfjbbnhdpiaaW.PrintMore
def clus (l : List Int) : List Int := (l.filter (fun x => decide (x ≥ 2))).map (fun x => wrap64 (x - 2))
theorem clus_pos {x : Int} (l : List Int) (h : x ≥ 2) : clus (x :: l) = wrap64 (x - 2) :: clus l := by simp [clus, h]
theorem clus_neg {x : Int} (l : List Int) (h : ¬ x ≥ 2) : clus (x :: l) = clus l := by
  have : decide (x ≥ 2) = false := decide_eq_false h
  simp only [clus, List.filter_cons, this, Bool.false_eq_true, if_false]
theorem clus_len (l : List Int) : (clus l).length ≤ l.length := by
  unfold clus; rw [List.length_map]; exact List.length_filter_le _ _
theorem clus_loops (l : List Int) (hn : l.length ≤ 1048576) (d : Nat) : ∀ (k i : Nat) (s : List Int), s.length ≤ i → i ≤ l.length → l.length - i = d → d < k → spec_l09Clusters.l0 k l s (i : Int) = some (s ++ clus (l.drop i)) ∧ impl_clusters.l0 k s l (l.length : Int) (i : Int) = some (s ++ clus (l.drop i)) := by
  induction d with
  | zero =>
    intro k i s hs hi hd hk
    obtain ⟨k, rfl⟩ : ∃ m, k = m + 1 := ⟨k - 1, by omega⟩
    simp only [spec_l09Clusters.l0, impl_clusters.l0]
    rw [if_neg (by omega), if_neg (by omega), List.drop_eq_nil_of_le (by omega)]
    simp [clus]
  | succ d ih =>
    intro k i s hs hi hd hk
    obtain ⟨k, rfl⟩ : ∃ m, k = m + 1 := ⟨k - 1, by omega⟩
    have hlt : i < l.length := by omega
    have c1 : (i : Int) < (l.length : Int) := by omega
    have c2 : (0 : Int) ≤ (i : Int) := by omega
    simp only [spec_l09Clusters.l0, impl_clusters.l0, if_pos c1, if_pos c2]
    rw [wrap_small hlt (by omega), rd_get l i hlt, List.drop_eq_getElem_cons hlt]
    by_cases h : l[i] ≥ 2
    · rw [if_pos h, if_pos h, if_pos (by omega), if_pos (by omega)]
      have := ih k (i + 1) (s ++ [wrap64 (l[i] - 2)]) (by simp; omega) (by omega) (by omega) (by omega)
      rw [List.append_assoc] at this
      rw [clus_pos _ h]
      exact this
    · rw [if_neg h, if_neg h]
      rw [clus_neg _ h]
      exact ih k (i + 1) s (by omega) (by omega) (by omega) (by omega)
theorem clus_same (l : List Int) (hl : l.length ≤ 1048576) : ∃ r : List Int × Int, r.1.length ≤ 1048576 ∧ ∀ k, 8192 < k → spec_ClustersOf.f k l = some r ∧ impl_ClustersOf.f k l = some r := by
  by_cases h : (l.length : Int) > 4096
  · refine ⟨([], 2), by simp, fun k hk => ⟨?_, ?_⟩⟩
    · unfold spec_ClustersOf.f; rw [if_pos h]
    · unfold impl_ClustersOf.f impl_isLong_int.f; simp [impl_table, firsts2, h]
  cases hb : tableB l with
  | false =>
    refine ⟨([], 1), by simp, fun k hk => ⟨?_, ?_⟩⟩
    · unfold spec_ClustersOf.f; simp [spec_table l k (by omega), h, hb]
    · unfold impl_ClustersOf.f impl_isLong_int.f; simp [impl_table, firsts2, h, hb]
  | true =>
    refine ⟨(clus l, 0), Nat.le_trans (clus_len l) hl, fun k hk => ?_⟩
    obtain ⟨e1, e2⟩ := clus_loops l hl l.length k 0 [] (by simp) (by omega) (by omega) (by omega)
    have e1' : spec_l09Clusters.f k l = some (clus l) := e1
    have e2' : impl_clusters.f k l = some (clus l) := e2
    refine ⟨?_, ?_⟩
    · unfold spec_ClustersOf.f; simp [spec_table l k (by omega), h, hb, e1']
    · unfold impl_ClustersOf.f impl_isLong_int.f; simp [impl_table, firsts2, h, hb, e2']
theorem FnExactClustersOf (l0 : List Int) (_ : l0.length ≤ maxLen) (_ : ∀ x ∈ l0, (fun x : Int => (Lit.int .i64 x).wf = true) x) : ∃ k, laws_FnExactClustersOf.f k l0 = some true := by
  by_cases h : (l0.length : Int) > 1048576
  · exact ⟨0, by unfold laws_FnExactClustersOf.f; rw [if_pos h]⟩
  · refine ⟨2000000 + 1 + 1 + 1, ?_⟩
    obtain ⟨r', hl, hr⟩ := clus_same l0 (by omega)
    obtain ⟨h1, h2⟩ := hr (2000000 + 1 + 1 + 1) (by omega)
    obtain ⟨_, h5⟩ := hr (2000000 + 1) (by omega)
    have j2 : laws_FnExactClustersOf.j2 (2000000 + 1) (marks r'.1.length) ((r'.1.length : Int) + 1) false = some true := by
      simp only [laws_FnExactClustersOf.j2, Bool.false_eq_true, if_false, held_eq r'.1.length (2000000) (by omega) (by omega), Option.bind_some, if_true]
      rw [if_neg (by omega)]
    have j1 : laws_FnExactClustersOf.j1 (2000000 + 1 + 1) l0 r'.1 r'.2 r'.1 false = some true := by
      simp only [laws_FnExactClustersOf.j1, Bool.false_eq_true, if_false, mark_eq r'.1 (2000000 + 1) (by omega) (by omega), held_eq r'.1.length (2000000 + 1) (by omega) (by omega), Option.bind_some, if_true, toIntS_eq l0 (2000000 + 1) (by omega) (by omega), h5, eqIntS_self r'.1 (2000000 + 1) (by omega) (by omega), bne_self_eq_false, j2]
      rw [if_neg (by omega)]
    unfold laws_FnExactClustersOf.f
    rw [if_neg h]
    have j0 : laws_FnExactClustersOf.j0 (2000000 + 1 + 1 + 1) l0 r'.1 r'.2 l0 r'.1 r'.2 false = some true := by
      simp only [laws_FnExactClustersOf.j0, Bool.false_eq_true, if_false, Option.bind_some, if_true, toIntS_eq l0 (2000000 + 1 + 1) (by omega) (by omega), eqIntS_self l0 (2000000 + 1 + 1) (by omega) (by omega), mark_eq l0 (2000000 + 1 + 1) (by omega) (by omega), eqIntS_self r'.1 (2000000 + 1 + 1) (by omega) (by omega), bne_self_eq_false, j1]
      rw [if_neg (by omega)]
    simp only [toIntS_eq l0 (2000000 + 1 + 1 + 1) (by omega) (by omega), Option.bind_some, h1, h2, if_true, bne_self_eq_false, eqIntS_self r'.1 (2000000 + 1 + 1 + 1) (by omega) (by omega), j0]
end Go.Proofs.Ytagdfjbbnhdpiaa.Pure
