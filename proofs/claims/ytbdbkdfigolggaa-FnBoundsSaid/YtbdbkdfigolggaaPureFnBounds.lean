/- The law of the clock's bounds holds for every two codes of bytes: between the latest and the earliest true time a local time lies, whatever the drawn configuration and clock. -/
import Derived.Test.YtbdbkdfigolggaaQ6
import Derived.Test.YtbdbkdfigolggaaShows
set_option linter.unusedSimpArgs false
set_option linter.unusedVariables false
namespace Go.Proofs.Ytbdbkdfigolggaa.Pure
open Go.RowKit Go.Proofs.Ytbdbkdfigolggaa.Q Go.Proofs.Ytbdbkdfigolggaa.Hand Go.Proofs.YtbdbkdfigolggaaW.PrintWords Go.Proofs.YtbdbkdfigolggaaW.PrintLast Go.Proofs.YtbdbkdfigolggaaW.PrintMore
theorem first2n (c d : Int) : impl_first.f [AnyV.b (!true), AnyV.i c, AnyV.b (!true), AnyV.i d] = some 0 := rfl
theorem latest_is {a b c d m : Int} (ha : 1 ≤ a ∧ a ≤ 10000) (hb : 1 ≤ b ∧ b ≤ 100000) (hc : 0 ≤ c ∧ c ≤ 1000) (hd : 0 ≤ d ∧ d ≤ 500) (hm : 1 ≤ m ∧ m ≤ 100000) : ∃ x, impl_LatestTrue.f a b c d m = some (x, 0) ∧ x = ((m + 1) * 1000 + 999 - d) / (1000 - d) := by
  have hv : ∀ a b c, impl_within.f a b c = spec_l01In.f a b c := fun _ _ _ => rfl
  obtain ⟨x, _, l2, l3⟩ := latest_same a b c d m hd hm
  have d1 : decide (1 ≤ m) = true := decide_eq_true hm.1
  have d2 : decide (m ≤ 100000) = true := decide_eq_true hm.2
  refine ⟨x, ?_, l3⟩
  unfold impl_LatestTrue.f
  simp only [(right_is ha hb hc hd).2, hv, In_eq, Option.bind_some, d1, d2, Bool.and_self, first2n, if_true, l2]
theorem earliest_is {a b c d m : Int} (ha : 1 ≤ a ∧ a ≤ 10000) (hb : 1 ≤ b ∧ b ≤ 100000) (hc : 0 ≤ c ∧ c ≤ 1000) (hd : 0 ≤ d ∧ d ≤ 500) (hm : 1 ≤ m ∧ m ≤ 100000) : ∃ x, impl_EarliestTrue.f a b c d m = some (x, 0) ∧ x = ((m - 1) * 1000) / (1000 + d) := by
  have hv : ∀ a b c, impl_within.f a b c = spec_l01In.f a b c := fun _ _ _ => rfl
  obtain ⟨x, _, l2, l3⟩ := earliest_same a b c d m hd hm
  have d1 : decide (1 ≤ m) = true := decide_eq_true hm.1
  have d2 : decide (m ≤ 100000) = true := decide_eq_true hm.2
  refine ⟨x, ?_, l3⟩
  unfold impl_EarliestTrue.f
  simp only [(right_is ha hb hc hd).2, hv, In_eq, Option.bind_some, d1, d2, Bool.and_self, first2n, if_true, l2]
set_option maxRecDepth 100000 in
set_option maxHeartbeats 4000000 in
theorem bounds_tail (l0 l1 : List Int) (h0 : ∀ x ∈ l0, (fun x : Int => (Lit.int .u8 x).wf = true) x) (h1 : ∀ x ∈ l1, (fun x : Int => (Lit.int .u8 x).wf = true) x) (hn : l1.length ≤ 1048576) : laws_FnBounds.j0 10001 l0 l1 false = some true := by
  obtain ⟨a, b, c, g, e1, a0, a1, b0, b1, c0, c1, g0, g1⟩ := config_is l0 h0 10000 (by omega)
  obtain ⟨o, r, e2, o0, o1, r0, r1⟩ := clock_is l1 h1 g ⟨g0, g1⟩
  obtain ⟨m, e3, m0, m1⟩ := at_is (l := l1) 0 300 (bytes_of h1) (by omega) (by omega) (by omega)
  obtain ⟨t, e4, t0, t1⟩ := at_is (l := l1) 1 3000 (bytes_of h1) (by omega) (by omega) (by omega)
  have w1 : wrap64 (1 + m) = 1 + m := w64n (by omega) (by omega)
  obtain ⟨x, e5, hx⟩ := latest_is (a := a) (b := b) (c := c) (d := g) (m := 1 + m) (by omega) (by omega) (by omega) ⟨g0, g1⟩ (by omega)
  obtain ⟨y, e6, hy⟩ := earliest_is (a := a) (b := b) (c := c) (d := g) (m := 1 + m) (by omega) (by omega) (by omega) ⟨g0, g1⟩ (by omega)
  have bx := Plain.late_bd (m := 1 + m) (g := g) ⟨g0, g1⟩ (by omega) hx
  have by' := Plain.early_bd (m := 1 + m) (g := g) ⟨g0, g1⟩ (by omega) hy
  have w2 : wrap64 (t + x) = t + x := w64n (by omega) (by omega)
  have w3 : wrap64 (t + y) = t + y := w64n (by omega) (by omega)
  obtain ⟨e7, s1, s2⟩ := local_is (o := o) (r := r) (t := t) (by omega) (by omega) (by omega)
  obtain ⟨e8, s3, s4⟩ := local_is (o := o) (r := r) (t := t + x) (by omega) (by omega) (by omega)
  obtain ⟨e9, s5, s6⟩ := local_is (o := o) (r := r) (t := t + y) (by omega) (by omega) (by omega)
  have k1 := shows_ge (o := o) (r := r) (t := t) (e := x) ⟨g0, g1⟩ r0 hx (by omega) (Int.le_refl _)
  have k2 := shows_le (o := o) (r := r) (t := t) ⟨g0, g1⟩ r1 hy (by omega)
  have n1 : 0 ≤ shows o r t ∧ shows o r t ≤ 1000000 := by unfold shows; omega
  have n2 : 0 ≤ shows o r (t + x) ∧ shows o r (t + x) ≤ 1000000 := by unfold shows; omega
  have n3 : 0 ≤ shows o r (t + y) ∧ shows o r (t + y) ≤ 1000000 := by unfold shows; omega
  clear hx hy s1 s2 s3 s4 s5 s6
  have e5' : impl_LatestTrue.f a b c g (wrap64 (1 + m)) = some (x, 0) := by rw [w1]; exact e5
  have e6' : impl_EarliestTrue.f a b c g (wrap64 (1 + m)) = some (y, 0) := by rw [w1]; exact e6
  have e8' : impl_LocalOf.f o r (wrap64 (t + x)) = some (shows o r (t + x), 0) := by rw [w2]; exact e8
  have e9' : impl_LocalOf.f o r (wrap64 (t + y)) = some (shows o r (t + y), 0) := by rw [w3]; exact e9
  have z1 : wrap64 (shows o r (t + x) - shows o r t) ≥ wrap64 (1 + m) := by rw [w1, w64n (by omega) (by omega)]; omega
  have z2 : wrap64 (shows o r (t + y) - shows o r t) ≤ wrap64 (1 + m) := by rw [w1, w64n (by omega) (by omega)]; omega
  have z3 : y ≤ x := by omega
  have z4 : x > 0 := by omega
  unfold laws_FnBounds.j0
  refine (if_neg Bool.false_ne_true).trans ?_
  refine bind_of e1 ?_
  refine bind_of e2 ?_
  refine bind_of e3 ?_
  refine bind_of e4 ?_
  refine bind_of e5' ?_
  refine bind_of e6' ?_
  refine bind_of e7 ?_
  refine bind_of e8' ?_
  refine bind_of e9' ?_
  refine (if_pos rfl).trans ?_
  refine (if_pos rfl).trans ?_
  refine (if_pos rfl).trans ?_
  refine (if_pos rfl).trans ?_
  refine (if_pos rfl).trans ?_
  refine (if_pos z1).trans ?_
  refine (if_pos z2).trans ?_
  refine (if_pos z3).trans ?_
  exact congrArg some (decide_eq_true z4)
theorem FnBounds (l0 : List Int) (l1 : List Int) (_ : l0.length ≤ maxLen) (h0 : ∀ x ∈ l0, (fun x : Int => (Lit.int .u8 x).wf = true) x) (_ : l1.length ≤ maxLen) (h1 : ∀ x ∈ l1, (fun x : Int => (Lit.int .u8 x).wf = true) x) : ∃ k, laws_FnBounds.f k l0 l1 = some true := by
  refine ⟨10001, ?_⟩
  have ht : laws_FnBounds.j0 10001 l0 l1 true = some true := by simp only [laws_FnBounds.j0, if_true]
  unfold laws_FnBounds.f
  by_cases h : (l0.length : Int) > 1048576
  · rw [if_pos h]; exact ht
  · rw [if_neg h]
    by_cases h' : (l1.length : Int) > 1048576
    · rw [decide_eq_true h']; exact ht
    · rw [decide_eq_false h']; exact bounds_tail l0 l1 h0 h1 (by omega)
end Go.Proofs.Ytbdbkdfigolggaa.Pure
