/- The law of the fence holds for every two codes of bytes: where the drawn configuration is right, who seems dead has passed its fence. -/
import Derived.Test.YtbdbkdfigolggaaQ11
import Derived.Test.YtbdbkdfigolggaaQ10
import Derived.Test.YtbdbkdfigolggaaShows
set_option linter.unusedSimpArgs false
set_option linter.unusedVariables false
namespace Go.Proofs.Ytbdbkdfigolggaa.Pure
open Go.RowKit Go.Proofs.Ytbdbkdfigolggaa.Q Go.Proofs.Ytbdbkdfigolggaa.Hand Go.Proofs.YtbdbkdfigolggaaW.PrintWords Go.Proofs.YtbdbkdfigolggaaW.PrintLast Go.Proofs.YtbdbkdfigolggaaW.PrintMore
theorem first2n (c d : Int) : impl_first.f [AnyV.b (!true), AnyV.i c, AnyV.b (!true), AnyV.i d] = some 0 := rfl
theorem stamp_is {x : Int} (h : 0 ≤ x ∧ x ≤ 10000000) : impl_isStamp.f x = some true := by
  have hv : ∀ a b c, impl_within.f a b c = spec_l01In.f a b c := fun _ _ _ => rfl
  have d1 : decide (0 ≤ x) = true := decide_eq_true h.1
  have d2 : decide (x ≤ 10000000) = true := decide_eq_true h.2
  unfold impl_isStamp.f
  simp only [hv, In_eq, Option.bind_some, d1, d2, Bool.and_self]
theorem fence_is {a b c d e : Int} (ha : 1 ≤ a ∧ a ≤ 10000) (hb : 1 ≤ b ∧ b ≤ 100000) (hc : 0 ≤ c ∧ c ≤ 1000) (hd : 0 ≤ d ∧ d ≤ 500) (he : 0 ≤ e ∧ e ≤ 10000000) : impl_FenceAt.f a b c d e = some (wrap64 (e + a), 0) := by
  unfold impl_FenceAt.f
  simp only [(right_is ha hb hc hd).2, stamp_is he, Option.bind_some, first2n, if_true]
theorem dead_is {a b c d e f : Int} (ha : 1 ≤ a ∧ a ≤ 10000) (hb : 1 ≤ b ∧ b ≤ 100000) (hc : 0 ≤ c ∧ c ≤ 1000) (hd : 0 ≤ d ∧ d ≤ 500) (he : 0 ≤ e ∧ e ≤ 10000000) (hf : e ≤ f ∧ f ≤ 10000000) : impl_SeemsDead.f a b c d e f = some (decide (wrap64 (f - e) ≥ b), 0) ∧ spec_SeemsDead.f a b c d e f = some (decide (wrap64 (f - e) ≥ b), 0) := by
  have hv : ∀ a b c, impl_within.f a b c = spec_l01In.f a b c := fun _ _ _ => rfl
  have d1 : decide (0 ≤ e) = true := decide_eq_true he.1
  have d2 : decide (e ≤ 10000000) = true := decide_eq_true he.2
  have d3 : decide (e ≤ f) = true := decide_eq_true hf.1
  have d4 : decide (f ≤ 10000000) = true := decide_eq_true hf.2
  constructor
  · unfold impl_SeemsDead.f
    simp only [(right_is ha hb hc hd).2, stamp_is he, Option.bind_some, first2n, if_true, hv, In_eq, d3, d4, Bool.and_self]
  · unfold spec_SeemsDead.f
    simp only [(right_is ha hb hc hd).1, Option.bind_some, if_true, hv, In_eq, d1, d2, d3, d4, Bool.and_self]
set_option maxRecDepth 100000 in
set_option maxHeartbeats 4000000 in
theorem fence_tail (l0 l1 : List Int) (h0 : ∀ x ∈ l0, (fun x : Int => (Lit.int .u8 x).wf = true) x) (h1 : ∀ x ∈ l1, (fun x : Int => (Lit.int .u8 x).wf = true) x) (hn : l1.length ≤ 1048576) : laws_FnFence.j0 10002 l0 l1 false = some true := by
  obtain ⟨a, b, c, g, e1, a0, a1, b0, b1, c0, c1, g0, g1⟩ := config_is l0 h0 10001 (by omega)
  obtain ⟨ok, e2, e2', hok⟩ := config_same a b c g
  cases ok with
  | false =>
    unfold laws_FnFence.j0
    refine (if_neg Bool.false_ne_true).trans ?_
    refine bind_of e1 ?_
    refine bind_of e2' ?_
    refine (if_neg Bool.false_ne_true).trans ?_
    exact bind_of e2 rfl
  | true =>
    obtain ⟨x, y, _, _, hx, hy, hxy, _⟩ := hok rfl
    obtain ⟨oA, rA, e3, oA0, oA1, rA0, rA1⟩ := clock_is l0 h0 g ⟨g0, g1⟩
    obtain ⟨oB, rB, e4, oB0, oB1, rB0, rB1⟩ := clock_is l1 h1 g ⟨g0, g1⟩
    obtain ⟨s, e5, s0, s1⟩ := at_is (l := l1) 0 2000 (bytes_of h1) (by omega) (by omega) (by omega)
    obtain ⟨p, e6, p0, p1⟩ := at_is (l := l1) 1 60 (bytes_of h1) (by omega) (by omega) (by omega)
    obtain ⟨q, e7, q0, q1⟩ := at_is (l := l1) 2 400 (bytes_of h1) (by omega) (by omega) (by omega)
    obtain ⟨z, e8, z0, z1⟩ := at_is (l := l1) 3 2 (bytes_of h1) (by omega) (by omega) (by omega)
    obtain ⟨u, hu, u0, u1⟩ : ∃ u, z * b = u ∧ 0 ≤ u ∧ u ≤ b := by
      have hz : z = 0 ∨ z = 1 := by omega
      rcases hz with rfl | rfl
      · exact ⟨0, by omega, by omega, by omega⟩
      · exact ⟨b, by omega, by omega, by omega⟩
    have w1 : wrap64 (s + p) = s + p := w64n (by omega) (by omega)
    have w2 : wrap64 (z * b) = u := by rw [hu]; exact w64n (by omega) (by omega)
    have w3 : wrap64 (wrap64 (wrap64 (s + p) + q) + wrap64 (z * b)) = s + p + (q + u) := by
      rw [w1, w2, w64n (x := s + p + q) (by omega) (by omega), w64n (x := s + p + q + u) (by omega) (by omega)]; omega
    obtain ⟨e9, m1, m2⟩ := local_is (o := oA) (r := rA) (t := s) (by omega) (by omega) (by omega)
    obtain ⟨e10, m3, m4⟩ := local_is (o := oB) (r := rB) (t := s + p) (by omega) (by omega) (by omega)
    obtain ⟨e11, m5, m6⟩ := local_is (o := oB) (r := rB) (t := s + p + (q + u)) (by omega) (by omega) (by omega)
    have n1 : 0 ≤ shows oA rA s ∧ shows oA rA s ≤ 1000000 := by unfold shows; omega
    have n2 : 0 ≤ shows oB rB (s + p) ∧ shows oB rB (s + p) ≤ 1000000 := by unfold shows; omega
    have n3 : 0 ≤ shows oB rB (s + p + (q + u)) ∧ shows oB rB (s + p + (q + u)) ≤ 1000000 := by unfold shows; omega
    have k1 := shows_mono (o := oB) (r := rB) (t := s + p) (e := q + u) (by omega) (by omega)
    have e12 := fence_is (a := a) (b := b) (c := c) (d := g) (e := shows oA rA s) (by omega) (by omega) (by omega) ⟨g0, g1⟩ (by omega)
    obtain ⟨e13, e14⟩ := dead_is (a := a) (b := b) (c := c) (d := g) (e := shows oB rB (s + p)) (f := shows oB rB (s + p + (q + u))) (by omega) (by omega) (by omega) ⟨g0, g1⟩ (by omega) (by omega)
    have e10' : impl_LocalOf.f oB rB (wrap64 (s + p)) = some (shows oB rB (s + p), 0) := by rw [w1]; exact e10
    have e11' : impl_LocalOf.f oB rB (wrap64 (wrap64 (wrap64 (s + p) + q) + wrap64 (z * b))) = some (shows oB rB (s + p + (q + u)), 0) := by rw [w3]; exact e11
    have w4 : wrap64 (shows oB rB (s + p + (q + u)) - shows oB rB (s + p)) = shows oB rB (s + p + (q + u)) - shows oB rB (s + p) := w64n (by omega) (by omega)
    have w5 : wrap64 (shows oA rA s + a) = shows oA rA s + a := w64n (by omega) (by omega)
    clear m1 m2 m3 m4 m5 m6
    have hj : laws_FnFence.j1 10001 s (wrap64 (wrap64 (wrap64 (s + p) + q) + wrap64 (z * b))) (wrap64 (shows oA rA s + a)) (decide (wrap64 (shows oB rB (s + p + (q + u)) - shows oB rB (s + p)) ≥ b)) false a b c g oA rA = some true := by
      rw [w3, w4, w5]
      by_cases hd : shows oB rB (s + p + (q + u)) - shows oB rB (s + p) ≥ b
      · have hy' : y < q + u := shows_gt (o := oB) (r := rB) (t := s + p) (e := q + u) ⟨g0, g1⟩ (by omega) hy (by omega) (by omega)
        have bx := Plain.late_bd (m := a) (g := g) ⟨g0, g1⟩ (by omega) hx
        have k2 := shows_ge (o := oA) (r := rA) (t := s) (e := p + (q + u) - c) ⟨g0, g1⟩ rA0 hx (by omega) (by omega)
        have w6 : wrap64 (s + p + (q + u) - c) = s + (p + (q + u) - c) := by rw [w64n (by omega) (by omega)]; omega
        obtain ⟨e15, _, _⟩ := local_is (o := oA) (r := rA) (t := s + (p + (q + u) - c)) (by omega) (by omega) (by omega)
        have e15' : impl_LocalOf.f oA rA (wrap64 (s + p + (q + u) - c)) = some (shows oA rA (s + (p + (q + u) - c)), 0) := by rw [w6]; exact e15
        have z3 : wrap64 (s + p + (q + u) - c) > s := by rw [w6]; omega
        have z4 : shows oA rA (s + (p + (q + u) - c)) ≥ shows oA rA s + a := k2
        rw [decide_eq_true hd]
        unfold laws_FnFence.j1
        refine (if_neg Bool.false_ne_true).trans ?_
        refine (if_pos rfl).trans ?_
        refine bind_of e15' ?_
        refine (if_pos rfl).trans ?_
        refine (if_pos z3).trans ?_
        exact congrArg some (decide_eq_true z4)
      · rw [decide_eq_false hd]
        unfold laws_FnFence.j1
        refine (if_neg Bool.false_ne_true).trans ?_
        exact if_neg Bool.false_ne_true
    unfold laws_FnFence.j0
    refine (if_neg Bool.false_ne_true).trans ?_
    refine bind_of e1 ?_
    refine bind_of e2' ?_
    refine (if_pos rfl).trans ?_
    refine bind_of e3 ?_
    refine bind_of e4 ?_
    refine bind_of e5 ?_
    refine bind_of e6 ?_
    refine bind_of e7 ?_
    refine bind_of e8 ?_
    refine bind_of e9 ?_
    refine bind_of e12 ?_
    refine bind_of e10' ?_
    refine bind_of e11' ?_
    refine bind_of e13 ?_
    refine bind_of e14 ?_
    refine (if_pos rfl).trans ?_
    refine (if_pos rfl).trans ?_
    refine (if_pos rfl).trans ?_
    refine (if_pos rfl).trans ?_
    refine (if_pos rfl).trans ?_
    refine (if_neg (by simp)).trans ?_
    refine Eq.trans ?_ hj
    exact congrArg (fun v => laws_FnFence.j1 10001 s (wrap64 (wrap64 (wrap64 (s + p) + q) + wrap64 (z * b))) (wrap64 (shows oA rA s + a)) (decide (wrap64 (shows oB rB (s + p + (q + u)) - shows oB rB (s + p)) ≥ b)) v a b c g oA rA) (by simp)
theorem FnFence (l0 : List Int) (l1 : List Int) (_ : l0.length ≤ maxLen) (h0 : ∀ x ∈ l0, (fun x : Int => (Lit.int .u8 x).wf = true) x) (_ : l1.length ≤ maxLen) (h1 : ∀ x ∈ l1, (fun x : Int => (Lit.int .u8 x).wf = true) x) : ∃ k, laws_FnFence.f k l0 l1 = some true := by
  refine ⟨10002, ?_⟩
  have ht : laws_FnFence.j0 10002 l0 l1 true = some true := by simp only [laws_FnFence.j0, if_true]
  unfold laws_FnFence.f
  by_cases h : (l0.length : Int) > 1048576
  · rw [if_pos h]; exact ht
  · rw [if_neg h]
    by_cases h' : (l1.length : Int) > 1048576
    · rw [decide_eq_true h']; exact ht
    · rw [decide_eq_false h']; exact fence_tail l0 l1 h0 h1 (by omega)
end Go.Proofs.Ytbdbkdfigolggaa.Pure
