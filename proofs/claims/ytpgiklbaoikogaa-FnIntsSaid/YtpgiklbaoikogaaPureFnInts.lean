/- The law of packed numbers holds for every code of bytes: what is packed is as long as it must be and is unpacked again, and one byte more is refused. -/
import Derived.Test.YtpgiklbaoikogaaQ5
import Derived.Test.YtpgiklbaoikogaaUnpack
import Derived.Test.YtpgiklbaoikogaaPack
import Derived.Test.YtpgiklbaoikogaaNext
set_option linter.unusedSimpArgs false
set_option linter.unusedVariables false
namespace Go.Proofs.Ytpgiklbaoikogaa.Pure
open Go.RowKit Go.Proofs.Ytpgiklbaoikogaa.Q Go.Proofs.Ytpgiklbaoikogaa.Hand Go.Proofs.YtpgiklbaoikogaaW.PrintWords Go.Proofs.YtpgiklbaoikogaaW.PrintLast Go.Proofs.YtpgiklbaoikogaaW.PrintMore
theorem bind_of {α β : Type} {x : Option α} {a : α} {f : α → Option β} {r : Option β} (h : x = some a) (h2 : f a = r) : x.bind f = r := by rw [h]; exact h2
def inN (l : List Int) : Prop := ∀ x ∈ l, 0 ≤ x ∧ x ≤ 2147483647
theorem number_is {l : List Int} {a s : Int} (h : Src l a s) (hr : a + 9 ≤ 1099511627776) : ∃ r a' s', spec_l00Src_number.f l a s = some (r, a', s') ∧ 0 ≤ r ∧ r ≤ 2147483647 ∧ a ≤ a' ∧ a' ≤ a + 9 ∧ Src l a' s' := by
  obtain ⟨r1, p1, q1, e1, r1a, r1b, _, u1, v1, hs1⟩ := next_is 9 h (by omega) (by omega)
  obtain ⟨r2, p2, q2, e2, r2a, r2b, _, u2, v2, hs2⟩ := next_is 70000 hs1 (by omega) (by omega)
  obtain ⟨r3, p3, q3, e3, r3a, r3b, _, u3, v3, hs3⟩ := next_is 9 hs2 (by omega) (by omega)
  have t : Int.tdiv r3 4 = r3 / 4 := Int.tdiv_eq_ediv_of_nonneg (by omega)
  have tw : wrap64 (Int.tdiv r3 4) = r3 / 4 := by rw [t]; exact w64n (by omega) (by omega)
  obtain ⟨x, hx, x0, x1⟩ : ∃ x, rd [r1, r2, 2147483647] (r3 / 4) = x ∧ 0 ≤ x ∧ x ≤ 2147483647 := by
    refine ⟨_, rfl, ?_⟩
    have h3 : r3 / 4 = 0 ∨ r3 / 4 = 1 ∨ r3 / 4 = 2 := by omega
    rcases h3 with h3 | h3 | h3 <;> rw [h3] <;> simp [rd] <;> omega
  refine ⟨x, p3, q3, ?_, x0, x1, by omega, by omega, hs3⟩
  unfold spec_l00Src_number.f
  refine bind_of e1 ?_
  refine bind_of e2 ?_
  refine bind_of (a := [r1, r2, 2147483647]) rfl ?_
  refine bind_of e3 ?_
  show (if 0 ≤ wrap64 (Int.tdiv r3 4) then _ else _) = _
  rw [tw, if_pos (by omega), if_pos (by show r3 / 4 < 3; omega)]
  rw [hx]
theorem numbers_loop (l : List Int) (d : Nat) : ∀ (k : Nat) (n : Int) (x3 : List Int) (a s : Int), 0 ≤ n → n.toNat = d → d < k → (x3.length : Int) + n ≤ 6 → inN x3 → Src l a s → a ≤ 1000000 + 9 * (x3.length : Int) → ∃ r a' s', spec_l00Src_numbers.l0 k x3 n l a s = some (r, a', s') ∧ r.length ≤ 6 ∧ inN r := by
  induction d with
  | zero =>
    intro k n x3 a s h0 hd hk hn hr hs ha
    obtain ⟨k, rfl⟩ : ∃ m, k = m + 1 := ⟨k - 1, by omega⟩
    have c : ¬ n > 0 := by omega
    simp only [spec_l00Src_numbers.l0, if_neg c]
    exact ⟨x3, a, s, rfl, by omega, hr⟩
  | succ d ih =>
    intro k n x3 a s h0 hd hk hn hr hs ha
    obtain ⟨k, rfl⟩ : ∃ m, k = m + 1 := ⟨k - 1, by omega⟩
    have c : n > 0 := by omega
    have c3 : x3.length < 17592186044416 := by omega
    obtain ⟨r, p, q, e, r0, r1, pa, pb, hs1⟩ := number_is hs (by omega)
    have hl : ((x3 ++ [r]).length : Int) = (x3.length : Int) + 1 := by simp
    obtain ⟨r', a', s', e2, h1, h2⟩ := ih k (n - 1) (x3 ++ [r]) p q (by omega) (by omega) (by omega) (by omega) (fun x hx' => by
      rcases List.mem_append.1 hx' with h | h
      · exact hr x h
      · rw [List.mem_singleton.1 h]; exact ⟨r0, r1⟩) hs1 (by omega)
    refine ⟨r', a', s', ?_, h1, h2⟩
    simp only [spec_l00Src_numbers.l0, if_pos c]
    refine bind_of e ?_
    rw [if_pos c3, w64n (x := n - 1) (by omega) (by omega)]
    exact e2
theorem numbers_drawn (l : List Int) (h : ∀ x ∈ l, (fun x : Int => (Lit.int .u8 x).wf = true) x) (k : Nat) (hk : 100 < k) : ∃ r, spec_NumbersOf.f k l = some r ∧ r.length ≤ 6 ∧ inN r := by
  obtain ⟨e0, hs⟩ := source_is h
  obtain ⟨r1, p1, q1, e1, r1a, r1b, _, _, pa, hs1⟩ := next_is 7 hs (by omega) (by omega)
  obtain ⟨r, a', s', e2, h1, h2⟩ := numbers_loop l r1.toNat k r1 [] p1 q1 r1a rfl (by omega) (by simp; omega) (fun x hx => by cases hx) hs1 (by simp; omega)
  have e3 : spec_l00Src_numbers.f k l 0 ((l.length : Int) % 1000) = some (r, a', s') := by
    unfold spec_l00Src_numbers.f
    exact bind_of e1 e2
  refine ⟨r, ?_, h1, h2⟩
  unfold spec_NumbersOf.f
  refine bind_of e0 ?_
  exact bind_of e3 rfl
theorem bt_nums (l : List Int) (h : ∀ x ∈ l, 0 ≤ x ∧ x ≤ 255) (i : Nat) (hi : i < l.length) : bt (strOfNums l) (i : Int) = l[i] := by
  have hx := h _ (List.getElem_mem hi)
  unfold bt
  have hs : (i : Int).toNat < (strOfNums l).size := by simp [strOfNums, ByteArray.size]; exact hi
  rw [dif_pos hs]
  simp only [strOfNums, ByteArray.getElem_eq_getElem_data, Int.toNat_natCast]
  simp
  omega
theorem packed_get (l : List Int) (j r : Nat) (hj : j < l.length) (hr : r < 4) : (packed l)[4 * j + r]? = (bytes4 l[j])[r]? := by
  induction l generalizing j with
  | nil => exact absurd hj (Nat.not_lt_zero _)
  | cons x l ih =>
    have hb : (bytes4 x).length = 4 := rfl
    have e : packed (x :: l) = bytes4 x ++ packed l := rfl
    rw [e]
    cases j with
    | zero =>
      rw [List.getElem?_append_left (by omega)]
      simp
    | succ j =>
      rw [List.getElem?_append_right (by omega), hb]
      have e2 : 4 * (j + 1) + r - 4 = 4 * j + r := by omega
      rw [e2, ih j (by simpa using hj)]
      simp
theorem packed_in (l : List Int) : ∀ x ∈ packed l, 0 ≤ x ∧ x ≤ 255 := by
  intro x hx
  unfold packed at hx
  obtain ⟨y, _, hy⟩ := List.mem_flatMap.1 hx
  simp only [bytes4, List.mem_cons, List.not_mem_nil, or_false] at hy
  omega
theorem bt_packed (l : List Int) (j r : Nat) (hj : j < l.length) (hr : r < 4) (v : Int) (hv : (bytes4 l[j])[r]? = some v) (s : ByteArray) : bt (strOfNums (packed l)) (4 * (j : Int) + (r : Int)) = v := by
  have hl := packed_len l
  have hi : 4 * j + r < (packed l).length := by omega
  have e : 4 * (j : Int) + (r : Int) = ((4 * j + r : Nat) : Int) := by omega
  rw [e, bt_nums _ (packed_in l) _ hi]
  have := packed_get l j r hj hr
  rw [List.getElem?_eq_getElem hi, hv] at this
  exact Option.some.inj this
theorem val_packed (l : List Int) (hl : inN l) (j : Nat) (hj : j < l.length) : val (strOfNums (packed l)) (4 * (j : Int)) = l[j] := by
  have hx := hl _ (List.getElem_mem hj)
  have h0 := bt_packed l j 0 hj (by omega) _ rfl ⟨#[]⟩
  have h1 := bt_packed l j 1 hj (by omega) _ rfl ⟨#[]⟩
  have h2 := bt_packed l j 2 hj (by omega) _ rfl ⟨#[]⟩
  have h3 := bt_packed l j 3 hj (by omega) _ rfl ⟨#[]⟩
  have e0 : 4 * (j : Int) + ((0 : Nat) : Int) = 4 * (j : Int) := by omega
  have e1 : 4 * (j : Int) + ((1 : Nat) : Int) = 4 * (j : Int) + 1 := by omega
  have e2 : 4 * (j : Int) + ((2 : Nat) : Int) = 4 * (j : Int) + 2 := by omega
  have e3 : 4 * (j : Int) + ((3 : Nat) : Int) = 4 * (j : Int) + 3 := by omega
  rw [e0] at h0
  rw [e1] at h1
  rw [e2] at h2
  rw [e3] at h3
  unfold val
  rw [h0, h1, h2, h3]
  generalize l[j] = x at hx
  omega
theorem vals_packed (l : List Int) (hl : inN l) : vals (strOfNums (packed l)) l.length = l := by
  apply List.ext_getElem
  · rw [vals_length]
  · intro j h1 h2
    simp only [vals, List.getElem_map, List.getElem_range]
    exact val_packed l hl j h2
theorem ints_true (l : List Int) (hn : l.length ≤ 6) (hl : inN l) : intsB l = true := by
  unfold intsB numP
  simp only [Bool.and_eq_true, decide_eq_true_eq, List.all_eq_true]
  exact ⟨by omega, hl⟩
theorem size_nums (l : List Int) : (strOfNums l).size = l.length := by
  simp [strOfNums, ByteArray.size]
theorem same_loop (a : List Int) (hn : a.length ≤ 35184372088832) (d : Nat) : ∀ (k i : Nat), i ≤ a.length → a.length - i = d → d < k → laws_sameInts.l0 k a a (i : Int) = some true := by
  induction d with
  | zero =>
    intro k i hi hd hk
    obtain ⟨k, rfl⟩ : ∃ m, k = m + 1 := ⟨k - 1, by omega⟩
    simp only [laws_sameInts.l0]
    rw [if_neg (by omega)]
  | succ d ih =>
    intro k i hi hd hk
    obtain ⟨k, rfl⟩ : ∃ m, k = m + 1 := ⟨k - 1, by omega⟩
    have hlt : i < a.length := by omega
    simp only [laws_sameInts.l0]
    rw [if_pos (by omega), if_pos (by omega), if_pos (by omega), if_pos trivial, wrap_small hlt hn]
    exact ih k (i + 1) (by omega) (by omega) (by omega)
theorem FnInts (l0 : List Int) (_ : l0.length ≤ maxLen) (hw : ∀ x ∈ l0, (fun x : Int => (Lit.int .u8 x).wf = true) x) : ∃ k, laws_FnInts.f k l0 = some true := by
  by_cases h : (l0.length : Int) > 1048576
  · exact ⟨0, by unfold laws_FnInts.f; rw [if_pos h]⟩
  · refine ⟨100000, ?_⟩
    obtain ⟨l, e1, hn, hl⟩ := numbers_drawn l0 hw 100000 (by omega)
    have hb := ints_true l hn hl
    have hz : (strOfNums (packed l)).size = 4 * l.length := by rw [size_nums, packed_len]
    have e2 : impl_PackInts.f 100000 l = some (strOfNums (packed l), 0) := by
      have c : ¬ (l.length : Int) > 4096 := by omega
      unfold impl_PackInts.f impl_isLong_int.f
      simp [impl_ints, firsts2, c, hb, pack_impl l 100000 (by omega) (by omega)]
    have e3 : spec_PackInts.f 100000 l = some (strOfNums (packed l), 0) := by
      have c : ¬ (l.length : Int) > 4096 := by omega
      unfold spec_PackInts.f
      simp [spec_ints l 100000 (by omega) (by omega), c, hb, pack_spec l 100000 (by omega) (by omega)]
    have e4 : impl_UnpackInts.f 100000 (strOfNums (packed l)) = some (l, 0) := by
      have hm : most (strOfNums (packed l)) = l.length := by unfold most; omega
      have c4 : ((strOfNums (packed l)).size : Int) % 4 = 0 := by omega
      have c : ¬ ((strOfNums (packed l)).size : Int) > 65536 := by omega
      have hu := unpack_impl (strOfNums (packed l)) (by omega) 100000 (by omega)
      rw [hm, vals_packed l hl, hb, if_pos c4] at hu
      unfold impl_UnpackInts.f impl_isLongText.f
      rw [hu]
      simp [firsts2, c]
    have hz5 : (strOfNums (packed l) ++ (⟨#[120]⟩ : ByteArray)).size = 4 * l.length + 1 := by rw [ByteArray.size_append, hz]; rfl
    have e5 : impl_UnpackInts.f 100000 (strOfNums (packed l) ++ (⟨#[120]⟩ : ByteArray)) = some ([], 3) := by
      have c4 : ¬ ((strOfNums (packed l) ++ (⟨#[120]⟩ : ByteArray)).size : Int) % 4 = 0 := by omega
      have c : ¬ ((strOfNums (packed l) ++ (⟨#[120]⟩ : ByteArray)).size : Int) > 65536 := by omega
      have hu := unpack_impl (strOfNums (packed l) ++ (⟨#[120]⟩ : ByteArray)) (by omega) 100000 (by omega)
      rw [if_neg c4] at hu
      unfold impl_UnpackInts.f impl_isLongText.f
      rw [hu]
      generalize strOfNums (packed l) ++ (⟨#[120]⟩ : ByteArray) = S at c ⊢
      simp [firsts2, c]
    have e6 : laws_sameInts.f 100000 l l = some true := by
      unfold laws_sameInts.f
      rw [if_pos rfl]
      exact same_loop l (by omega) l.length 100000 0 (by omega) (by omega) (by omega)
    have w : ((strOfNums (packed l)).size : Int) = wrap64 (4 * (l.length : Int)) := by rw [w64n (by omega) (by omega)]; omega
    unfold laws_FnInts.f
    rw [if_neg h]
    refine bind_of e1 ?_
    refine bind_of e2 ?_
    refine bind_of e3 ?_
    refine bind_of e4 ?_
    refine (if_pos (by show (strOfNums (packed l)).size + 1 ≤ _; omega)).trans ?_
    refine bind_of e5 ?_
    refine (if_pos rfl).trans ?_
    refine (if_pos rfl).trans ?_
    refine (if_pos w).trans ?_
    refine (if_pos rfl).trans ?_
    exact bind_of e6 rfl
end Go.Proofs.Ytpgiklbaoikogaa.Pure
