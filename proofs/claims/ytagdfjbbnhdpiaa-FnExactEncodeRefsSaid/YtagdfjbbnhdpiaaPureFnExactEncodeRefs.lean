/- The program's EncodeRefs and the reference's give the same for every list of at most 1048576 numbers (the law's own guard). -/
import Derived.Test.YtagdfjbbnhdpiaaQ2
import Derived.Test.YtagdfjbbnhdpiaaTables
import Derived.Test.YtagdfjbbnhdpiaaSeal
import Derived.Test.YtagdfjbbnhdpiaaFirsts
import Derived.Test.YtagdfjbbnhdpiaaHandRt
set_option linter.unusedSimpArgs false
set_option linter.unusedVariables false
namespace Go.Proofs.Ytagdfjbbnhdpiaa.Pure
open Go.RowKit Go.Proofs.Ytagdfjbbnhdpiaa.Q Go.Proofs.Ytagdfjbbnhdpiaa.Hand Go.Proofs.YtagdfjbbnhdpiaaW.PrintWords Go.Proofs.YtagdfjbbnhdpiaaW.PrintLast Go.Proofs.YtagdfjbbnhdpiaaW.PrintMore
def gstep (x y : Int) : Int := wrap64 (wrap64 (16 * x) + y)
def six (l : List Int) (i : Nat) : Int := gstep (gstep (gstep (gstep (gstep (gstep 0 (l.getD (i + 5) 0)) (l.getD (i + 4) 0)) (l.getD (i + 3) 0)) (l.getD (i + 2) 0)) (l.getD (i + 1) 0)) (l.getD i 0)
/-- Six rounds of the gathering: one number is done. -/
def put6 (zs : List Int) (s : List Int) (q j : Nat) : List Int := s.set q (gstep (s.getD q 0) (zs.getD j 0))
theorem gath_nat (zs : List Int) (pre : List (Fin zs.length)) (s : List Int) : pre.foldl (step4 zs) s = (pre.map Fin.val).foldl (fun s j => put6 zs s (j / 6) j) s := by
  induction pre generalizing s with
  | nil => rfl
  | cons p pre ih =>
    rw [List.foldl_cons, List.map_cons, List.foldl_cons, ih]
    congr 1
    unfold step4 put6 gstep
    have : zs[p] = zs.getD (p : Nat) 0 := by simp [List.getD_eq_getElem?_getD]
    rw [this]
theorem back_nat (zs : List Int) (h : zs.length = 24) : (back zs zs.length).map Fin.val = [23, 22, 21, 20, 19, 18, 17, 16, 15, 14, 13, 12, 11, 10, 9, 8, 7, 6, 5, 4, 3, 2, 1, 0] := by
  have e : (back zs zs.length).map Fin.val = (List.range zs.length).map (fun j => zs.length - 1 - j) := by
    apply List.ext_getElem
    · simp [back]
    · intro i h1 h2
      simp [back, Fin.val_rev]
      omega
  rw [e, h]
  rfl
theorem gath_is (l : List Int) (h : l.length = 24) : gath l (back l l.length) = [six l 0, six l 6, six l 12, six l 18] := by
  unfold gath
  rw [gath_nat, back_nat l h]
  simp only [List.foldl_cons, List.foldl_nil, put6, Nat.reduceDiv, List.set_cons_succ, List.set_cons_zero, List.getD_cons_succ, List.getD_cons_zero]
  rfl
theorem six_loop (l s : List Int) (h : l.length = 24) (hs : s.length ≤ 100) (i : Nat) (hi : i + 6 ≤ 24) (k : Nat) : spec_l08Encode.l1 (k + 7) l s (i : Int) 0 5 = spec_l08Encode.l0 k l (s ++ [six l i]) (wrap64 ((i : Int) + 6)) := by
  have r : ∀ j : Nat, rd l ((i + j : Nat) : Int) = l.getD (i + j) 0 := fun j => rfl
  have w : ∀ j : Nat, j ≤ 5 → wrap64 ((i : Int) + (j : Int)) = ((i + j : Nat) : Int) := fun j hj => by unfold wrap64; omega
  have w5 := w 5 (by omega)
  have w4 := w 4 (by omega)
  have w3 := w 3 (by omega)
  have w2 := w 2 (by omega)
  have w1 := w 1 (by omega)
  have w0 := w 0 (by omega)
  have d5 : wrap64 (5 - 1) = ((4 : Nat) : Int) := by unfold wrap64; omega
  have d4 : wrap64 (((4 : Nat) : Int) - 1) = ((3 : Nat) : Int) := by unfold wrap64; omega
  have d3 : wrap64 (((3 : Nat) : Int) - 1) = ((2 : Nat) : Int) := by unfold wrap64; omega
  have d2 : wrap64 (((2 : Nat) : Int) - 1) = ((1 : Nat) : Int) := by unfold wrap64; omega
  have d1 : wrap64 (((1 : Nat) : Int) - 1) = ((0 : Nat) : Int) := by unfold wrap64; omega
  have d0 : wrap64 (((0 : Nat) : Int) - 1) = -1 := by unfold wrap64; omega
  have c : ∀ j : Nat, j ≤ 5 → ((i + j : Nat) : Int) < (l.length : Int) := fun j hj => by omega
  have p : ∀ j : Nat, (0 : Int) ≤ ((i + j : Nat) : Int) := fun j => by omega
  have g : ∀ j : Nat, ((j : Nat) : Int) ≥ 0 := fun j => by omega
  have gm : ¬ (-1 : Int) ≥ 0 := by omega
  have cl : s.length < 17592186044416 := by omega
  have e5 : (5 : Int) = ((5 : Nat) : Int) := rfl
  rw [e5] at d5 ⊢
  simp only [spec_l08Encode.l1, if_pos (g 5), w5, if_pos (p 5), if_pos (c 5 (by omega)), d5, if_pos (g 4), w4, if_pos (p 4), if_pos (c 4 (by omega)), d4, if_pos (g 3), w3, if_pos (p 3), if_pos (c 3 (by omega)), d3, if_pos (g 2), w2, if_pos (p 2), if_pos (c 2 (by omega)), d2, if_pos (g 1), w1, if_pos (p 1), if_pos (c 1 (by omega)), d1, if_pos (g 0), w0, if_pos (p 0), if_pos (c 0 (by omega)), d0, if_neg gm, if_pos cl, r]
  rfl
theorem enc_is (l : List Int) (h : l.length = 24) (k : Nat) : spec_l08Encode.f (k + 33) l = spec_l02Seal.f k 2 [six l 0, six l 6, six l 12, six l 18] := by
  have w6 : wrap64 (((0 : Nat) : Int) + 6) = ((6 : Nat) : Int) := by unfold wrap64; omega
  have w12 : wrap64 (((6 : Nat) : Int) + 6) = ((12 : Nat) : Int) := by unfold wrap64; omega
  have w18 : wrap64 (((12 : Nat) : Int) + 6) = ((18 : Nat) : Int) := by unfold wrap64; omega
  have w24 : wrap64 (((18 : Nat) : Int) + 6) = ((24 : Nat) : Int) := by unfold wrap64; omega
  have l0 : ∀ (n : Nat) (s : List Int) (j : Nat), j < 24 → spec_l08Encode.l0 (n + 1) l s (j : Int) = spec_l08Encode.l1 n l s (j : Int) 0 5 := fun n s j hj => by
    simp only [spec_l08Encode.l0]
    rw [if_pos (by omega)]
  have l24 : ∀ (n : Nat) (s : List Int), spec_l08Encode.l0 (n + 1) l s ((24 : Nat) : Int) = spec_l02Seal.f n 2 s := fun n s => by
    simp only [spec_l08Encode.l0]
    rw [if_neg (by omega)]
    cases spec_l02Seal.f n 2 s <;> rfl
  show spec_l08Encode.l0 (k + 33) l [] ((0 : Nat) : Int) = _
  rw [l0 (k + 32) [] 0 (by omega), six_loop l [] h (by simp) 0 (by omega) (k + 25), w6, l0 (k + 24) _ 6 (by omega), six_loop l _ h (by simp) 6 (by omega) (k + 17), w12, l0 (k + 16) _ 12 (by omega), six_loop l _ h (by simp) 12 (by omega) (k + 9), w18, l0 (k + 8) _ 18 (by omega), six_loop l _ h (by simp) 18 (by omega) (k + 1), w24, l24 k]
  rfl
theorem refs_len24 {l : List Int} (h : refsB l = true) : l.length = 24 := by
  unfold refsB at h
  simp only [Bool.and_eq_true, decide_eq_true_eq] at h
  exact h.1
theorem seal_mono (a : Int) (l : List Int) (k : Nat) : ∀ j r, spec_l02Seal.f k a l = some r → spec_l02Seal.f (k + j) a l = some r := by
  intro j
  induction j with
  | zero => intro r h; exact h
  | succ j ih => intro r h; exact spec_l02Seal.mono _ _ _ _ (ih r h)
theorem text_same (l : List Int) (hl : l.length ≤ 1048576) (k : Nat) (hk : 1500000 < k) : ∃ r, spec_EncodeRefs.f k l = some r ∧ impl_EncodeRefs.f k l = some r := by
  unfold spec_EncodeRefs.f impl_EncodeRefs.f impl_isLong_int.f
  simp only [spec_refs l k (by omega), impl_refs, Option.bind_some, firsts2]
  by_cases h : (l.length : Int) > 4096
  · exact ⟨(⟨#[]⟩, 2), by rw [if_pos h], by simp [h]⟩
  · cases hb : refsB l with
    | false => exact ⟨(⟨#[]⟩, 1), by simp [h], by simp [h]⟩
    | true =>
      have h24 := refs_len24 hb
      obtain ⟨k', rfl⟩ : ∃ m, k = m + 33 := ⟨k - 33, by omega⟩
      obtain ⟨r, e1, _⟩ := seal_same 2 [six l 0, six l 6, six l 12, six l 18] k' (by simp) (by omega)
      obtain ⟨r', e1', e2⟩ := seal_same 2 [six l 0, six l 6, six l 12, six l 18] (k' + 33) (by simp) (by omega)
      have hr : r' = r := by
        have := seal_mono 2 [six l 0, six l 6, six l 12, six l 18] k' 33 r e1
        rw [this] at e1'
        exact (Option.some.inj e1').symm
      subst hr
      have e3 : impl_refsText.f (k' + 33) l = some r' := by
        unfold impl_refsText.f
        rw [if_pos h24, gath_is l h24]
        exact e2
      have e4 : spec_l08Encode.f (k' + 33) l = some r' := (enc_is l h24 k').trans e1
      exact ⟨(r', 0), by simp [h, e4], by simp [h, e3]⟩
theorem FnExactEncodeRefs (l0 : List Int) (_ : l0.length ≤ maxLen) (_ : ∀ x ∈ l0, (fun x : Int => (Lit.int .i64 x).wf = true) x) : ∃ k, laws_FnExactEncodeRefs.f k l0 = some true := by
  by_cases h : (l0.length : Int) > 1048576
  · exact ⟨0, by unfold laws_FnExactEncodeRefs.f; rw [if_pos h]⟩
  · refine ⟨2000000 + 1, ?_⟩
    obtain ⟨r, h1, h2⟩ := text_same l0 (by omega) (2000000 + 1) (by omega)
    unfold laws_FnExactEncodeRefs.f
    rw [if_neg h]
    simp only [toIntS_eq l0 (2000000 + 1) (by omega) (by omega), Option.bind_some, h1, h2, if_true, laws_FnExactEncodeRefs.j0, bne_self_eq_false, Bool.false_eq_true, if_false, toIntS_eq l0 (2000000) (by omega) (by omega), eqIntS_self l0 (2000000) (by omega) (by omega)]
end Go.Proofs.Ytagdfjbbnhdpiaa.Pure
