/- The program's NewImage and the reference's give the same for every size, and what is given owns its memory. No condition. -/
import Derived.Test.YtpgiklbaoikogaaQ4
import Derived.Test.YtpgiklbaoikogaaMarksA
import Derived.Test.YtpgiklbaoikogaaEqInts
set_option linter.unusedSimpArgs false
set_option linter.unusedVariables false
namespace Go.Proofs.Ytpgiklbaoikogaa.Pure
open Go.RowKit Go.Proofs.Ytpgiklbaoikogaa.Q Go.Proofs.Ytpgiklbaoikogaa.Hand Go.Proofs.YtpgiklbaoikogaaW.PrintWords Go.Proofs.YtpgiklbaoikogaaW.PrintLast Go.Proofs.YtpgiklbaoikogaaW.PrintMore

theorem bind_of {α β : Type} {x : Option α} {a : α} {f : α → Option β} {r : Option β} (h : x = some a) (h2 : f a = r) : x.bind f = r := by rw [h]; exact h2
theorem image_same (a : Int) : ∃ r d t c, spec_NewImage.f a = some (r, t, [], d, c) ∧ impl_NewImage.f a = some (r, t, [], d, c) ∧ r.length ≤ 24 ∧ t.length ≤ 12 ∧ d.length ≤ 24 := by
  have hv : ∀ a b c, impl_within.f a b c = spec_l01In.f a b c := fun _ _ _ => rfl
  unfold spec_NewImage.f impl_NewImage.f impl_isSize.f spec_l10New.f impl_newImage.f
  simp only [hv, InR_eq, Option.bind_some]
  cases hq : (decide (0 ≤ a) && decide (a ≤ 12)) with
  | false => exact ⟨[], [], [], 4, by simp, by simp, by simp, by simp, by simp⟩
  | true =>
    simp only [Bool.and_eq_true, decide_eq_true_eq] at hq
    have c1 : 0 ≤ a := hq.1
    have c2 : a.toNat ≤ 35184372088832 := by omega
    refine ⟨List.replicate 24 0, List.replicate 24 0, List.replicate a.toNat 0, 0, ?_, ?_, by simp, by simp; omega, by simp⟩
    · simp only [if_true, if_pos c1, if_pos c2, Option.bind_some]
    · simp only [if_true, if_pos c1, if_pos c2, Option.bind_some]
theorem image_self (r t d : List Int) (k : Nat) (hr : r.length ≤ 24) (ht : t.length ≤ 12) (hd : d.length ≤ 24) (hk : 1000 < k) : laws_eqImage.f k r t [] d r t [] d = some true := by
  obtain ⟨k, rfl⟩ : ∃ m, k = m + 1 := ⟨k - 1, by omega⟩
  have e : laws_eqSnapS.f (k + 1) [] [] = some true := rfl
  unfold laws_eqImage.f
  rw [eqIntS_self r (k + 1) (by omega) (by omega), eqIntS_self t (k + 1) (by omega) (by omega), eqIntS_self d (k + 1) (by omega) (by omega), e]
  rfl
theorem image_mark (r t d : List Int) (k : Nat) (hr : r.length ≤ 24) (ht : t.length ≤ 12) (hd : d.length ≤ 24) (hk : 1000 < k) : laws_markImage.f k r t [] d 1 = some (1 + (r.length : Int) + (t.length : Int) + (d.length : Int), marksI 1 r.length, marksI (1 + (r.length : Int)) t.length, marksI (1 + (r.length : Int) + (t.length : Int)) d.length) := by
  unfold laws_markImage.f
  refine bind_of (markI_eq r 1 (by omega) (by omega) k (by omega) (by omega)) ?_
  refine bind_of (markI_eq t _ (by show 0 ≤ 1 + (r.length : Int); omega) (by show 1 + (r.length : Int) ≤ _; omega) k (by omega) (by omega)) ?_
  refine bind_of (a := 1 + (r.length : Int) + (t.length : Int)) rfl ?_
  refine bind_of (markI_eq d _ (by omega) (by omega) k (by omega) (by omega)) ?_
  rfl
theorem image_held (n m p : Nat) (k : Nat) (hr : n ≤ 24) (ht : m ≤ 12) (hd : p ≤ 24) (hk : 1000 < k) : laws_heldImage.f k (marksI 1 n) (marksI (1 + (n : Int)) m) [] (marksI (1 + (n : Int) + (m : Int)) p) 1 = some (1 + (n : Int) + (m : Int) + (p : Int)) := by
  obtain ⟨k, rfl⟩ : ∃ m, k = m + 1 := ⟨k - 1, by omega⟩
  unfold laws_heldImage.f
  refine bind_of (heldI_eq 1 (by omega) (by omega) n (k + 1) (by omega) (by omega)) ?_
  refine (if_neg (by omega)).trans ?_
  refine bind_of (heldI_eq (1 + (n : Int)) (by omega) (by omega) m (k + 1) (by omega) (by omega)) ?_
  refine (if_neg (by omega)).trans ?_
  refine bind_of (a := 1 + (n : Int) + (m : Int)) rfl ?_
  refine (if_neg (by omega)).trans ?_
  refine bind_of (heldI_eq (1 + (n : Int) + (m : Int)) (by omega) (by omega) p (k + 1) (by omega) (by omega)) ?_
  exact if_neg (by omega)
theorem FnExactNewImage (a0 : Int) (_ : (Lit.int .i64 a0).wf = true) : ∃ k, laws_FnExactNewImage.f k a0 = some true := by
  refine ⟨2000 + 1 + 1, ?_⟩
  obtain ⟨r, d, t, c, e1, e2, hr, ht, hd⟩ := image_same a0
  have j1 : laws_FnExactNewImage.j1 (2000 + 1) (1 + (r.length : Int) + (t.length : Int) + (d.length : Int)) false (marksI 1 r.length) (marksI (1 + (r.length : Int)) t.length) [] (marksI (1 + (r.length : Int) + (t.length : Int)) d.length) = some true := by
    unfold laws_FnExactNewImage.j1
    refine (if_neg Bool.false_ne_true).trans ?_
    refine bind_of (image_held r.length t.length d.length 2000 hr ht hd (by omega)) ?_
    refine (if_neg (by omega)).trans ?_
    exact if_pos rfl
  have j0 : laws_FnExactNewImage.j0 (2000 + 1 + 1) a0 c false r t [] d r t [] d = some true := by
    unfold laws_FnExactNewImage.j0
    refine (if_neg Bool.false_ne_true).trans ?_
    refine bind_of (image_mark r t d (2000 + 1) hr ht hd (by omega)) ?_
    refine bind_of (image_held r.length t.length d.length (2000 + 1) hr ht hd (by omega)) ?_
    refine (if_neg (by omega)).trans ?_
    refine (if_pos rfl).trans ?_
    refine bind_of e2 ?_
    refine bind_of (image_self r t d (2000 + 1) hr ht hd (by omega)) ?_
    refine (if_pos rfl).trans ?_
    have hc : (c != c) = false := bne_self_eq_false c
    show laws_FnExactNewImage.j1 (2000 + 1) _ (c != c) _ _ _ _ = _
    rw [hc]
    exact j1
  unfold laws_FnExactNewImage.f
  refine bind_of e1 ?_
  refine bind_of e2 ?_
  refine bind_of (image_self r t d (2000 + 1 + 1) hr ht hd (by omega)) ?_
  refine (if_pos rfl).trans ?_
  have hc : (c != c) = false := bne_self_eq_false c
  show laws_FnExactNewImage.j0 (2000 + 1 + 1) a0 c (c != c) r t [] d r t [] d = _
  rw [hc]
  exact j0
end Go.Proofs.Ytpgiklbaoikogaa.Pure
