/- The reference's drawn configurations and clocks lie within bounds, for every code of bytes; the test of configurations, the program's and the reference's, tells the same. -/
import Derived.Test.YtbdbkdfigolggaaQ4
import Derived.Test.YtbdbkdfigolggaaQ10
import Derived.Test.YtbdbkdfigolggaaNext
import Derived.Test.YtbdbkdfigolggaaClockQ
set_option linter.unusedSimpArgs false
set_option linter.unusedVariables false
namespace Go.Proofs.Ytbdbkdfigolggaa.Pure
open Go.RowKit Go.Proofs.Ytbdbkdfigolggaa.Q Go.Proofs.Ytbdbkdfigolggaa.Hand Go.Proofs.YtbdbkdfigolggaaW.PrintWords Go.Proofs.YtbdbkdfigolggaaW.PrintLast Go.Proofs.YtbdbkdfigolggaaW.PrintMore
theorem bind_of {α β : Type} {x : Option α} {a : α} {f : α → Option β} {r : Option β} (h : x = some a) (h2 : f a = r) : x.bind f = r := by rw [h]; exact h2
theorem config_same (a b c d : Int) : ∃ r, spec_ConfigOK.f a b c d = some r ∧ impl_ConfigOK.f a b c d = some r ∧ (r = true → ∃ x y, spec_l03Latest.f d a = some x ∧ spec_l03Earliest.f d b = some y ∧ x = ((a + 1) * 1000 + 999 - d) / (1000 - d) ∧ y = ((b - 1) * 1000) / (1000 + d) ∧ x + c < y ∧ 1 ≤ a ∧ a ≤ 10000 ∧ 1 ≤ b ∧ b ≤ 100000 ∧ 0 ≤ c ∧ c ≤ 1000 ∧ 0 ≤ d ∧ d ≤ 500) := by
  obtain ⟨r, h1, h2, h3⟩ := right_same a b c d
  unfold spec_ConfigOK.f impl_ConfigOK.f
  rw [h1, h2]
  cases r with
  | false => exact ⟨false, by simp, by simp, fun h => by cases h⟩
  | true =>
    have hb := h3 rfl
    obtain ⟨x, l1, l2, l5⟩ := latest_same a b c d a (by omega) (by omega)
    obtain ⟨y, l3, l4, l6⟩ := earliest_same a b c d b (by omega) (by omega)
    have bx := Plain.late_bd (m := a) (g := d) (by omega) (by omega) l5
    simp only [Option.bind_some, if_true, l1, l2, l3, l4]
    refine ⟨_, rfl, rfl, fun h => ⟨x, y, rfl, rfl, l5, l6, ?_, by omega⟩⟩
    have h' := of_decide_eq_true h
    rw [w64n (by omega) (by omega)] at h'
    exact h'
theorem config_loop (l : List Int) (a c g s1 s2 : Int) (ha : 1 ≤ a ∧ a ≤ 40) (hc : 0 ≤ c ∧ c ≤ 8) (hg : 0 ≤ g ∧ g ≤ 500) (d : Nat) :
    ∀ (k : Nat) (b : Int), 1 ≤ b → b ≤ 12000 → 9000 - b ≤ d → d < k → ∃ b', spec_l00Src_config.l0 k l s1 s2 a b c g = some (a, b', c, g, s1, s2) ∧ 1 ≤ b' ∧ b' ≤ 12000 := by
  induction d with
  | zero =>
    intro k b h1 h2 hd hk
    obtain ⟨k, rfl⟩ : ∃ m, k = m + 1 := ⟨k - 1, by omega⟩
    obtain ⟨r, e, _, _⟩ := config_same a b c g
    simp only [spec_l00Src_config.l0]
    rw [e]
    simp only [Option.bind_some]
    cases r with
    | true => exact ⟨b, by simp, h1, h2⟩
    | false => exact ⟨b, by simp; omega, h1, h2⟩
  | succ d ih =>
    intro k b h1 h2 hd hk
    obtain ⟨k, rfl⟩ : ∃ m, k = m + 1 := ⟨k - 1, by omega⟩
    obtain ⟨r, e, _, _⟩ := config_same a b c g
    simp only [spec_l00Src_config.l0]
    rw [e]
    simp only [Option.bind_some]
    cases r with
    | true => exact ⟨b, by simp, h1, h2⟩
    | false =>
      by_cases h9 : b < 9000
      · have t : Int.tdiv b 4 = b / 4 := Int.tdiv_eq_ediv_of_nonneg (by omega)
        rw [t, w64n (x := b / 4) (by omega) (by omega), w64n (x := 1 + b / 4) (by omega) (by omega), w64n (x := b + (1 + b / 4)) (by omega) (by omega)]
        obtain ⟨b', e', r1, r2⟩ := ih k (b + (1 + b / 4)) (by omega) (by omega) (by omega) (by omega)
        refine ⟨b', ?_, r1, r2⟩
        rw [if_neg (by decide), if_pos h9]
        exact e'
      · refine ⟨b, ?_, h1, h2⟩
        rw [if_neg (by decide), if_neg h9]
set_option maxRecDepth 100000 in
set_option maxHeartbeats 4000000 in
theorem config_is (l : List Int) (h : ∀ x ∈ l, (fun x : Int => (Lit.int .u8 x).wf = true) x) (k : Nat) (hk : 9001 < k) :
    ∃ a b c g, spec_ConfigOf.f k l = some (a, b, c, g) ∧ 1 ≤ a ∧ a ≤ 40 ∧ 1 ≤ b ∧ b ≤ 12000 ∧ 0 ≤ c ∧ c ≤ 8 ∧ 0 ≤ g ∧ g ≤ 500 := by
  obtain ⟨e0, hs⟩ := source_is h
  obtain ⟨r1, p1, q1, e1, r1a, r1b, _, _, _, hs1⟩ := next_is 40 hs (by omega) (by omega)
  obtain ⟨r2, p2, q2, e2, r2a, r2b, _, _, _, hs2⟩ := next_is 9 hs1 (by omega) (by omega)
  obtain ⟨r3, p3, q3, e3, r3a, r3b, _, _, _, hs3⟩ := next_is 100 hs2 (by omega) (by omega)
  obtain ⟨r4, p4, q4, e4, r4a, r4b, _, _, _, hs4⟩ := next_is 9 hs3 (by omega) (by omega)
  obtain ⟨r5, p5, q5, e5, r5a, r5b, _, _, _, hs5⟩ := next_is 60 hs4 (by omega) (by omega)
  have t : Int.tdiv r4 4 = r4 / 4 := Int.tdiv_eq_ediv_of_nonneg (by omega)
  have tw : wrap64 (Int.tdiv r4 4) = r4 / 4 := by rw [t]; exact w64n (by omega) (by omega)
  obtain ⟨g, hg, g0, g1⟩ : ∃ g, rd [0, r3, 500] (r4 / 4) = g ∧ 0 ≤ g ∧ g ≤ 500 := by
    refine ⟨_, rfl, ?_⟩
    have h3 : r4 / 4 = 0 ∨ r4 / 4 = 1 ∨ r4 / 4 = 2 := by omega
    rcases h3 with h3 | h3 | h3 <;> rw [h3] <;> simp [rd] <;> omega
  obtain ⟨x, l1, _, l5⟩ := latest_same 0 0 0 g (1 + r1) ⟨g0, g1⟩ (by omega)
  have bx := Plain.late_bd (m := 1 + r1) (g := g) ⟨g0, g1⟩ (by omega) l5
  obtain ⟨b, eb, b0, b1⟩ := config_loop l (1 + r1) r2 g p5 q5 (by omega) (by omega) ⟨g0, g1⟩ 9000 k (x + r2 + r5) (by omega) (by omega) (by omega) (by omega)
  refine ⟨1 + r1, b, r2, g, ?_, by omega, by omega, b0, b1, by omega, by omega, g0, g1⟩
  have hc : spec_l00Src_config.f k l 0 ((l.length : Int) % 1000) = some (1 + r1, b, r2, g, p5, q5) := by
    have w1 : wrap64 (1 + r1) = 1 + r1 := w64n (by omega) (by omega)
    have w2 : wrap64 (x + r2) = x + r2 := w64n (by omega) (by omega)
    have w3 : wrap64 (x + r2 + r5) = x + r2 + r5 := w64n (by omega) (by omega)
    unfold spec_l00Src_config.f
    refine bind_of e1 ?_
    refine bind_of e2 ?_
    refine bind_of e3 ?_
    refine bind_of (a := [0, r3, 500]) rfl ?_
    refine bind_of e4 ?_
    show (if 0 ≤ wrap64 (Int.tdiv r4 4) then _ else _) = _
    rw [tw, if_pos (by omega), if_pos (by show r4 / 4 < 3; omega)]
    rw [hg, w1]
    refine bind_of l1 ?_
    refine bind_of e5 ?_
    show spec_l00Src_config.l0 k l p5 q5 (1 + r1) (wrap64 (wrap64 (x + r2) + r5)) r2 g = _
    rw [w2, w3]
    exact eb
  unfold spec_ConfigOf.f
  refine bind_of e0 ?_
  exact bind_of hc rfl
set_option maxRecDepth 100000 in
set_option maxHeartbeats 4000000 in
theorem clock_is (l : List Int) (h : ∀ x ∈ l, (fun x : Int => (Lit.int .u8 x).wf = true) x) (g : Int) (hg : 0 ≤ g ∧ g ≤ 500) :
    ∃ o r, spec_ClockOf.f l g = some (o, r) ∧ 0 ≤ o ∧ o ≤ 99 ∧ -g ≤ r ∧ r ≤ g := by
  obtain ⟨e0, hs⟩ := source_is h
  obtain ⟨r1, p1, q1, e1, r1a, r1b, _, _, _, hs1⟩ := next_is 100 hs (by omega) (by omega)
  obtain ⟨r2, p2, q2, e2, r2a, r2b, _, _, _, hs2⟩ := next_is (2 * g + 1) hs1 (by omega) (by omega)
  refine ⟨r1, r2 - g, ?_, by omega, by omega, by omega, by omega⟩
  have k1 : wrap64 (2 * g) = 2 * g := w64n (by omega) (by omega)
  have k2 : wrap64 (2 * g + 1) = 2 * g + 1 := w64n (by omega) (by omega)
  have k3 : wrap64 (r2 - g) = r2 - g := w64n (by omega) (by omega)
  have e2' : spec_l00Src_next.f l p1 q1 (wrap64 (wrap64 (2 * g) + 1)) = some (r2, p2, q2) := by rw [k1, k2]; exact e2
  have hc : spec_l00Src_clock.f l 0 ((l.length : Int) % 1000) g = some (r1, r2 - g, p2, q2) := by
    unfold spec_l00Src_clock.f
    refine bind_of e1 ?_
    refine bind_of e2' ?_
    show some (r1, wrap64 (r2 - g), p2, q2) = _
    rw [k3]
  unfold spec_ClockOf.f
  refine bind_of e0 ?_
  exact bind_of hc rfl
/-- What a clock shows. -/
def shows (o r t : Int) : Int := o + (t * (1000 + r)) / 1000
theorem local_is {o r t : Int} (ho : 0 ≤ o ∧ o ≤ 1000000) (hr : -500 ≤ r ∧ r ≤ 500) (ht : 0 ≤ t ∧ t ≤ 1000000) : impl_LocalOf.f o r t = some (shows o r t, 0) ∧ 0 ≤ (t * (1000 + r)) / 1000 ∧ (t * (1000 + r)) / 1000 ≤ 2 * t := by
  have hv : ∀ a b c, impl_within.f a b c = spec_l01In.f a b c := fun _ _ _ => rfl
  have p0 : 0 ≤ t * (1000 + r) := Int.mul_nonneg (by omega) (by omega)
  have p1 : t * (1000 + r) ≤ t * 1500 := Int.mul_le_mul_of_nonneg_left (by omega) (by omega)
  have d1 : decide (0 ≤ o) = true := decide_eq_true ho.1
  have d2 : decide (o ≤ 1000000) = true := decide_eq_true ho.2
  have d3 : decide (0 ≤ t) = true := decide_eq_true ht.1
  have d4 : decide (t ≤ 1000000) = true := decide_eq_true ht.2
  have d5 : decide (-500 ≤ r) = true := decide_eq_true hr.1
  have d6 : decide (r ≤ 500) = true := decide_eq_true hr.2
  have w1 : wrap64 (1000 + r) = 1000 + r := w64n (by omega) (by omega)
  have w2 : wrap64 (t * (1000 + r)) = t * (1000 + r) := w64n (by omega) (by omega)
  have t1 : Int.tdiv (t * (1000 + r)) 1000 = (t * (1000 + r)) / 1000 := Int.tdiv_eq_ediv_of_nonneg p0
  refine ⟨?_, by omega, by omega⟩
  unfold impl_LocalOf.f shows
  simp only [hv, In_eq, d1, d2, d3, d4, d5, d6, Bool.and_self, Option.bind_some, if_true, w1, w2, t1]
  generalize t * (1000 + r) = T at *
  rw [w64n (x := T / 1000) (by omega) (by omega), w64n (x := o + T / 1000) (by omega) (by omega)]
end Go.Proofs.Ytbdbkdfigolggaa.Pure
