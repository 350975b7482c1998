/- The program's ResizeTable and the reference's give the same for every list of at most 1048576 numbers (the law's own guard) and every size. -/
import Derived.Test.YtagdfjbbnhdpiaaQ23
import Derived.Test.YtagdfjbbnhdpiaaTables
import Derived.Test.YtagdfjbbnhdpiaaFirsts
import Derived.Test.YtagdfjbbnhdpiaaMarks
set_option linter.unusedSimpArgs false
set_option linter.unusedVariables false
namespace Go.Proofs.Ytagdfjbbnhdpiaa.Pure
open Go.RowKit Go.Proofs.Ytagdfjbbnhdpiaa.Q Go.Proofs.Ytagdfjbbnhdpiaa.Hand Go.Proofs.YtagdfjbbnhdpiaaW.PrintWords Go.Proofs.YtagdfjbbnhdpiaaW.PrintLast Go.Proofs.YtagdfjbbnhdpiaaW.PrintMore
theorem resized_drop (l : List Int) (n i : Nat) (h : i < n) : (resizedOf l n).drop i = (if h : i < l.length then l[i] else 0) :: (resizedOf l n).drop (i + 1) := by
  have hl := length_resizedOf l n
  rw [List.drop_eq_getElem_cons (by omega)]
  congr 1
  unfold resizedOf
  rw [List.getElem_take]
  by_cases h2 : i < l.length
  · rw [dif_pos h2, List.getElem_append_left h2]
  · rw [dif_neg h2, List.getElem_append_right (by omega), List.getElem_replicate]
theorem resize_loop (l : List Int) (n : Nat) (hn : n ≤ 1000) (d : Nat) : ∀ (k i : Nat) (s : List Int), s.length = i → i ≤ n → n - i = d → d < k → spec_l09Resize.l0 k l (n : Int) s (i : Int) = some (s ++ (resizedOf l n).drop i) := by
  induction d with
  | zero =>
    intro k i s hs hi hd hk
    obtain ⟨k, rfl⟩ : ∃ m, k = m + 1 := ⟨k - 1, by omega⟩
    have hl := length_resizedOf l n
    simp only [spec_l09Resize.l0]
    rw [if_neg (by omega), List.drop_eq_nil_of_le (by omega)]
    simp
  | succ d ih =>
    intro k i s hs hi hd hk
    obtain ⟨k, rfl⟩ : ∃ m, k = m + 1 := ⟨k - 1, by omega⟩
    have hlt : i < n := by omega
    simp only [spec_l09Resize.l0]
    rw [if_pos (by omega), wrap_small hlt (by omega), resized_drop l n i hlt]
    by_cases h : i < l.length
    · rw [if_pos (by omega), if_pos (by omega), if_pos (by omega), rd_get l i h, dif_pos h]
      have := ih k (i + 1) (s ++ [l[i]]) (by simp [hs]) (by omega) (by omega) (by omega)
      simpa using this
    · rw [if_neg (by omega), if_pos (by omega), dif_neg h]
      have := ih k (i + 1) (s ++ [0]) (by simp [hs]) (by omega) (by omega) (by omega)
      simpa using this
theorem resize_same (l : List Int) (a : Int) (hl : l.length ≤ 1048576) : ∃ r : List Int × Int, r.1.length ≤ 1048576 ∧ ∀ k, 8192 < k → spec_ResizeTable.f k l a = some r ∧ impl_ResizeTable.f l a = some r := by
  have hv : ∀ a b c, impl_within.f a b c = spec_l01In.f a b c := fun _ _ _ => rfl
  by_cases h : (l.length : Int) > 4096
  · refine ⟨([], 2), by simp, fun k hk => ⟨?_, ?_⟩⟩
    · unfold spec_ResizeTable.f; rw [if_pos h]
    · unfold impl_ResizeTable.f impl_isLong_int.f; simp [impl_table, hv, InR_eq, firsts3, h]
  cases hb : tableB l with
  | false =>
    refine ⟨([], 1), by simp, fun k hk => ⟨?_, ?_⟩⟩
    · unfold spec_ResizeTable.f; simp [spec_table l k (by omega), h, hb]
    · unfold impl_ResizeTable.f impl_isLong_int.f; simp [impl_table, hv, InR_eq, firsts3, h, hb]
  | true =>
    have hn : l.length ≤ 12 := by
      unfold tableB at hb
      simp only [Bool.and_eq_true, decide_eq_true_eq] at hb
      exact hb.1
    cases hq : (decide (0 ≤ a) && decide (a ≤ 12)) with
    | false =>
      refine ⟨([], 4), by simp, fun k hk => ⟨?_, ?_⟩⟩
      · unfold spec_ResizeTable.f; simp only [spec_table l k (by omega), h, hb, InR_eq, hq]; simp
      · unfold impl_ResizeTable.f impl_isLong_int.f; simp only [impl_table, hv, InR_eq, hq, firsts3, h, hb, Option.bind_some]; simp
    | true =>
      have hq' := hq
      simp only [Bool.and_eq_true, decide_eq_true_eq] at hq'
      obtain ⟨n, rfl⟩ : ∃ n : Nat, a = (n : Int) := ⟨a.toNat, by omega⟩
      have hr := length_resizedOf l n
      refine ⟨(resizedOf l n, 0), by show (resizedOf l n).length ≤ 1048576; omega, fun k hk => ?_⟩
      have e1 : spec_l09Resize.f k l (n : Int) = some (resizedOf l n) := resize_loop l n (by omega) n k 0 [] rfl (by omega) (by omega) (by omega)
      have e2 : impl_resized.f l (n : Int) = some (resizedOf l n) := by
        unfold impl_resized.f
        rw [if_pos ⟨by omega, by omega, by omega⟩, Int.toNat_natCast]
      refine ⟨?_, ?_⟩
      · unfold spec_ResizeTable.f; simp only [spec_table l k (by omega), h, hb, InR_eq, hq, e1]; simp
      · unfold impl_ResizeTable.f impl_isLong_int.f; simp only [impl_table, hv, InR_eq, hq, firsts3, h, hb, Option.bind_some, e2]; simp
theorem FnExactResizeTable (l0 : List Int) (a1 : Int) (_ : l0.length ≤ maxLen) (_ : ∀ x ∈ l0, (fun x : Int => (Lit.int .i64 x).wf = true) x) (_ : (Lit.int .i64 a1).wf = true) : ∃ k, laws_FnExactResizeTable.f k l0 a1 = some true := by
  by_cases h : (l0.length : Int) > 1048576
  · exact ⟨0, by unfold laws_FnExactResizeTable.f; rw [if_pos h]⟩
  · refine ⟨2000000 + 1 + 1 + 1, ?_⟩
    obtain ⟨r', hl, hr⟩ := resize_same l0 a1 (by omega)
    obtain ⟨h1, h2⟩ := hr (2000000 + 1 + 1 + 1) (by omega)
    obtain ⟨_, h5⟩ := hr (2000000 + 1) (by omega)
    have j2 : laws_FnExactResizeTable.j2 (2000000 + 1) (marks r'.1.length) ((r'.1.length : Int) + 1) false = some true := by
      simp only [laws_FnExactResizeTable.j2, Bool.false_eq_true, if_false, held_eq r'.1.length (2000000) (by omega) (by omega), Option.bind_some, if_true]
      rw [if_neg (by omega)]
    have j1 : laws_FnExactResizeTable.j1 (2000000 + 1 + 1) l0 a1 r'.1 r'.2 r'.1 false = some true := by
      simp only [laws_FnExactResizeTable.j1, Bool.false_eq_true, if_false, mark_eq r'.1 (2000000 + 1) (by omega) (by omega), held_eq r'.1.length (2000000 + 1) (by omega) (by omega), Option.bind_some, if_true, toIntS_eq l0 (2000000 + 1) (by omega) (by omega), h5, eqIntS_self r'.1 (2000000 + 1) (by omega) (by omega), bne_self_eq_false, j2]
      rw [if_neg (by omega)]
    unfold laws_FnExactResizeTable.f
    rw [if_neg h]
    have j0 : laws_FnExactResizeTable.j0 (2000000 + 1 + 1 + 1) l0 a1 r'.1 r'.2 l0 r'.1 r'.2 false = some true := by
      simp only [laws_FnExactResizeTable.j0, Bool.false_eq_true, if_false, Option.bind_some, if_true, toIntS_eq l0 (2000000 + 1 + 1) (by omega) (by omega), eqIntS_self l0 (2000000 + 1 + 1) (by omega) (by omega), mark_eq l0 (2000000 + 1 + 1) (by omega) (by omega), eqIntS_self r'.1 (2000000 + 1 + 1) (by omega) (by omega), bne_self_eq_false, j1]
      rw [if_neg (by omega)]
    simp only [toIntS_eq l0 (2000000 + 1 + 1 + 1) (by omega) (by omega), Option.bind_some, h1, h2, if_true, bne_self_eq_false, eqIntS_self r'.1 (2000000 + 1 + 1 + 1) (by omega) (by omega), j0]
end Go.Proofs.Ytagdfjbbnhdpiaa.Pure
