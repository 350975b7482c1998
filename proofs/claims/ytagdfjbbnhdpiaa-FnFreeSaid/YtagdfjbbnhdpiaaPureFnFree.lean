/- The law of the free cluster holds for every code of bytes: the drawn counts are right, and the first place that holds nothing is the one told. -/
import Derived.Test.YtagdfjbbnhdpiaaQ26
import Derived.Test.YtagdfjbbnhdpiaaQ15
import Derived.Test.YtagdfjbbnhdpiaaQ11
import Derived.Test.YtagdfjbbnhdpiaaAsk
import Derived.Test.YtagdfjbbnhdpiaaFree
import Derived.Test.YtagdfjbbnhdpiaaNext
set_option linter.unusedSimpArgs false
set_option linter.unusedVariables false
namespace Go.Proofs.Ytagdfjbbnhdpiaa.Pure
open Go.RowKit Go.Proofs.Ytagdfjbbnhdpiaa.Q Go.Proofs.Ytagdfjbbnhdpiaa.Hand Go.Proofs.YtagdfjbbnhdpiaaW.PrintWords Go.Proofs.YtagdfjbbnhdpiaaW.PrintLast Go.Proofs.YtagdfjbbnhdpiaaW.PrintMore
theorem bind_of {α β : Type} {x : Option α} {a : α} {f : α → Option β} {r : Option β} (h : x = some a) (h2 : f a = r) : x.bind f = r := by rw [h]; exact h2
theorem codes_is (l : List Int) (a : Int) : impl_refCodes.f l a = some (if (l.length : Int) > 4096 then 2 else if refsB l = true then (if (decide (0 ≤ a) && decide (a ≤ 23)) = true then 0 else 4) else 1) := by
  have hv : ∀ a b c, impl_within.f a b c = spec_l01In.f a b c := fun _ _ _ => rfl
  unfold impl_refCodes.f impl_isLong_int.f impl_isCluster.f
  simp only [impl_refs, hv, InR_eq, Option.bind_some, firsts3]
  generalize (decide (0 ≤ a) && decide (a ≤ 23)) = q
  by_cases h : (l.length : Int) > 4096
  · simp [h]
  · cases refsB l <;> cases q <;> simp [h]
theorem down_zero {l : List Int} {a : Int} (hb : refsB l = true) (h0 : 0 ≤ a) (h1 : a < (l.length : Int)) (hz : rd l a = 0) : impl_RefDown.f l a = some (l, 5) := by
  have hn := refs_len hb
  have h : ¬ (l.length : Int) > 4096 := by omega
  have hq : (decide (0 ≤ a) && decide (a ≤ 23)) = true := by simp; omega
  unfold impl_RefDown.f slices_Clone_int_int.f
  simp only [codes_is, h, hb, hq, if_true, if_false, Option.bind_some]
  rw [if_pos (by omega)]
  simp only [Option.bind_some, if_pos h0, if_pos h1, if_pos hz]
def inR (l : List Int) : Prop := ∀ x ∈ l, 0 ≤ x ∧ x ≤ 15
theorem refs_of {l : List Int} (h : l.length = 24) (hr : inR l) : refsB l = true := by
  unfold refsB refP
  simp only [Bool.and_eq_true, decide_eq_true_eq, List.all_eq_true]
  exact ⟨h, hr⟩
theorem max_loop (d : Nat) : ∀ (k i : Nat) (x3 l : List Int) (a s : Int), i ≤ 24 → 24 - i = d → d < k → x3.length = 24 → inR x3 → ∃ r, spec_l00Src_refs.l1 k x3 (i : Int) l a s = some (r, a, s) ∧ r.length = 24 ∧ inR r := by
  induction d with
  | zero =>
    intro k i x3 l a s hi hd hk hx hr
    obtain ⟨k, rfl⟩ : ∃ m, k = m + 1 := ⟨k - 1, by omega⟩
    have c : ¬ (i : Int) < 24 := by omega
    simp only [spec_l00Src_refs.l1, if_neg c]
    exact ⟨x3, rfl, hx, hr⟩
  | succ d ih =>
    intro k i x3 l a s hi hd hk hx hr
    obtain ⟨k, rfl⟩ : ∃ m, k = m + 1 := ⟨k - 1, by omega⟩
    have c : (i : Int) < 24 := by omega
    have c0 : (0 : Int) ≤ (i : Int) := by omega
    have c1 : (i : Int) < (x3.length : Int) := by omega
    simp only [spec_l00Src_refs.l1, if_pos c, if_pos c0, if_pos c1]
    rw [wrap_small (i := i) (n := 24) (by omega) (by omega)]
    apply ih k (i + 1) _ l a s (by omega) (by omega) (by omega) (by simpa using hx)
    intro x h
    rcases List.mem_or_eq_of_mem_set h with h | h
    · exact hr x h
    · have := hr _ (rd_in (l := x3) c0 c1)
      rw [h]
      unfold mx
      split <;> omega
theorem draw_loop (l : List Int) (n : Int) (hn : 2 ≤ n ∧ n ≤ 16) (d : Nat) : ∀ (k i : Nat) (x3 : List Int) (a s : Int), i ≤ 24 → 24 - i = d → d + 30 < k → x3.length = i → inR x3 → Src l a s → a ≤ 1000000 + 3 * i → ∃ r a' s', spec_l00Src_refs.l0 k x3 n (i : Int) l a s = some (r, a', s') ∧ r.length = 24 ∧ inR r := by
  induction d with
  | zero =>
    intro k i x3 a s hi hd hk hx hr hs ha
    obtain ⟨k, rfl⟩ : ∃ m, k = m + 1 := ⟨k - 1, by omega⟩
    have c : ¬ (i : Int) < 24 := by omega
    obtain ⟨r, p, q, e, _, _, _, _, _, hs1⟩ := next_is 6 hs (by omega) (by omega)
    have e1 : spec_l00Src_chance.f l a s 6 = some ((r == wrap64 (6 - 1)), p, q) := by
      unfold spec_l00Src_chance.f
      exact bind_of e rfl
    simp only [spec_l00Src_refs.l0, if_neg c]
    cases hc : (r == wrap64 (6 - 1)) with
    | true =>
      rw [hc] at e1
      obtain ⟨r', e2, h1, h2⟩ := max_loop 24 k 0 x3 l p q (by omega) (by omega) (by omega) (by omega) hr
      exact ⟨r', p, q, bind_of e1 (by rw [if_pos rfl]; exact e2), h1, h2⟩
    | false =>
      rw [hc] at e1
      exact ⟨x3, p, q, bind_of e1 (if_neg Bool.false_ne_true), by omega, hr⟩
  | succ d ih =>
    intro k i x3 a s hi hd hk hx hr hs ha
    obtain ⟨k, rfl⟩ : ∃ m, k = m + 1 := ⟨k - 1, by omega⟩
    have c : (i : Int) < 24 := by omega
    have c3 : x3.length < 17592186044416 := by omega
    obtain ⟨r, p, q, e, r0, r1, _, _, pa, hs1⟩ := next_is n hs (by omega) (by omega)
    obtain ⟨r', a', s', e2, h1, h2⟩ := ih k (i + 1) (x3 ++ [r]) p q (by omega) (by omega) (by omega) (by simp [hx]) (fun x hx' => by
      rcases List.mem_append.1 hx' with h | h
      · exact hr x h
      · rw [List.mem_singleton.1 h]; omega) hs1 (by omega)
    refine ⟨r', a', s', ?_, h1, h2⟩
    simp only [spec_l00Src_refs.l0, if_pos c]
    refine bind_of e ?_
    rw [if_pos c3, wrap_small (i := i) (n := 24) (by omega) (by omega)]
    exact e2
theorem refs_drawn (l : List Int) (h : ∀ x ∈ l, (fun x : Int => (Lit.int .u8 x).wf = true) x) (k : Nat) (hk : 100 < k) : ∃ r, spec_RefsOf.f k l = some r ∧ refsB r = true := by
  obtain ⟨e0, hs⟩ := source_is h
  obtain ⟨r1, p1, q1, e1, r1a, r1b, _, _, pa, hs1⟩ := next_is 15 hs (by omega) (by omega)
  obtain ⟨r, a', s', e2, h1, h2⟩ := draw_loop l (2 + r1) (by omega) 24 k 0 [] p1 q1 (by omega) (by omega) (by omega) rfl (fun x hx => by cases hx) hs1 (by omega)
  have w : wrap64 (2 + r1) = 2 + r1 := w64n (by omega) (by omega)
  have e3 : spec_l00Src_refs.f k l 0 ((l.length : Int) % 1000) = some (r, a', s') := by
    unfold spec_l00Src_refs.f
    refine bind_of e1 ?_
    show spec_l00Src_refs.l0 k [] (wrap64 (2 + r1)) 0 l p1 q1 = _
    rw [w]
    exact e2
  refine ⟨r, ?_, refs_of h1 h2⟩
  unfold spec_RefsOf.f
  refine bind_of e0 ?_
  exact bind_of e3 rfl
theorem free_loop (l : List Int) (hb : refsB l = true) (x4 x5 : Int) (hr : (x5 = 7 ∧ ∀ j : Nat, j < l.length → rd l (j : Int) ≠ 0) ∨ (x5 = 0 ∧ 0 ≤ x4 ∧ x4 < (l.length : Int) ∧ rd l x4 = 0 ∧ ∀ j : Nat, (j : Int) < x4 → rd l (j : Int) ≠ 0)) (d : Nat) : ∀ (k i : Nat), i ≤ 24 → 24 - i = d → d < k → (x5 = 0 → (i : Int) ≤ x4) → laws_FnFree.l0 k l x4 x5 (i : Int) = some true := by
  have hn := refs_len hb
  induction d with
  | zero =>
    intro k i hi hd hk hx
    obtain ⟨k, rfl⟩ : ∃ m, k = m + 1 := ⟨k - 1, by omega⟩
    have c : ¬ (i : Int) < (l.length : Int) := by omega
    have c7 : x5 = 7 := by omega
    simp only [laws_FnFree.l0, if_neg c, if_pos c7, impl_refs, Option.bind_some, hb]
  | succ d ih =>
    intro k i hi hd hk hx
    obtain ⟨k, rfl⟩ : ∃ m, k = m + 1 := ⟨k - 1, by omega⟩
    have c : (i : Int) < (l.length : Int) := by omega
    have c0 : (0 : Int) ≤ (i : Int) := by omega
    simp only [laws_FnFree.l0, if_pos c, if_pos c0]
    by_cases hz : rd l (i : Int) = 0
    · rw [if_pos hz, down_zero hb c0 c hz]
      rcases hr with ⟨h1, h2⟩ | ⟨h1, h2, h3, h4, h5⟩
      · exact absurd hz (h2 i (by omega))
      · have hx4 : x4 = (i : Int) := by
          have := hx h1
          by_cases h6 : (i : Int) < x4
          · exact absurd hz (h5 i h6)
          · omega
        simp only [Option.bind_some, if_pos h1, if_pos hx4]
        rfl
    · rw [if_neg hz, wrap_small (i := i) (n := 24) (by omega) (by omega)]
      refine ih k (i + 1) (by omega) (by omega) (by omega) (fun h => ?_)
      have := hx h
      by_cases h6 : (i : Int) = x4
      · rcases hr with ⟨h1, h2⟩ | ⟨h1, h2, h3, h4, h5⟩
        · omega
        · rw [← h6] at h4; exact absurd h4 hz
      · omega
theorem FnFree (l0 : List Int) (_ : l0.length ≤ maxLen) (hw : ∀ x ∈ l0, (fun x : Int => (Lit.int .u8 x).wf = true) x) : ∃ k, laws_FnFree.f k l0 = some true := by
  by_cases h : (l0.length : Int) > 1048576
  · exact ⟨0, by unfold laws_FnFree.f; rw [if_pos h]⟩
  · refine ⟨1000, ?_⟩
    obtain ⟨r, e1, hb⟩ := refs_drawn l0 hw 1000 (by omega)
    have hn := refs_len hb
    obtain ⟨i, e2, hi⟩ := index_is r 1000 (by omega) (by omega)
    have e3 := free_is r 1000 i e2
    rw [if_neg (by omega), if_pos hb] at e3
    unfold laws_FnFree.f
    rw [if_neg h]
    refine bind_of e1 ?_
    refine bind_of e3 ?_
    rcases hi with ⟨h1, h2⟩ | ⟨h1, h2, h3, h4⟩
    · rw [if_pos (by omega)]
      exact free_loop r hb 0 7 (.inl ⟨rfl, h2⟩) 24 1000 0 (by omega) (by omega) (by omega) (fun h => absurd h (by omega))
    · rw [if_neg (by omega)]
      exact free_loop r hb i 0 (.inr ⟨rfl, h1, h2, h3, h4⟩) 24 1000 0 (by omega) (by omega) (by omega) (fun _ => h1)
end Go.Proofs.Ytagdfjbbnhdpiaa.Pure
