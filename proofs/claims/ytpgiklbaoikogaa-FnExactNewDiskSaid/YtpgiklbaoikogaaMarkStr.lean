/- The laws' marks on slices of texts, as plain functions: marks are found again; for slices of at most 1000 texts. -/
import Derived.Test.YtpgiklbaoikogaaQ4
import Derived.Test.YtpgiklbaoikogaaDisks
set_option linter.unusedSimpArgs false
set_option linter.unusedVariables false
namespace Go.Proofs.Ytpgiklbaoikogaa.Pure
open Go.RowKit Go.Proofs.Ytpgiklbaoikogaa.Q Go.Proofs.Ytpgiklbaoikogaa.Hand Go.Proofs.YtpgiklbaoikogaaW.PrintWords Go.Proofs.YtpgiklbaoikogaaW.PrintLast Go.Proofs.YtpgiklbaoikogaaW.PrintMore
theorem size_one (x : Int) : (strOfNums [x]).size = 1 := by simp [strOfNums, ByteArray.size]
theorem text_loop (d : Nat) : ∀ (x : Int) (s : ByteArray), 0 ≤ x → x ≤ (d : Int) → (s.size : Int) + x ≤ 1000000 → ∃ t, ∀ k, d < k → laws_markText.l0 k x s = some t := by
  induction d with
  | zero =>
    intro x s h0 h1 h2
    refine ⟨(⟨#[109]⟩ : ByteArray) ++ s, fun k hk => ?_⟩
    obtain ⟨k, rfl⟩ : ∃ m, k = m + 1 := ⟨k - 1, by omega⟩
    have c : ¬ x > 0 := by omega
    simp only [laws_markText.l0, if_neg c]
    rw [if_pos (by omega)]
  | succ d ih =>
    intro x s h0 h1 h2
    by_cases c : x > 0
    · have t1 : Int.tdiv x 10 = x / 10 := Int.tdiv_eq_ediv_of_nonneg (by omega)
      have w : wrap64 (x / 10) = x / 10 := by unfold wrap64; omega
      have hz : ((strOfNums [(wrap64 (48 + (Int.tmod x 10))) % 256] ++ s).size : Int) = 1 + (s.size : Int) := by
        rw [ByteArray.size_append, size_one]; omega
      obtain ⟨t, ht⟩ := ih (x / 10) (strOfNums [(wrap64 (48 + (Int.tmod x 10))) % 256] ++ s) (by omega) (by omega) (by omega)
      refine ⟨t, fun k hk => ?_⟩
      obtain ⟨k, rfl⟩ : ∃ m, k = m + 1 := ⟨k - 1, by omega⟩
      simp only [laws_markText.l0, if_pos c, Option.bind_some]
      rw [if_pos (by rw [size_one]; omega), t1, w]
      exact ht k (by omega)
    · refine ⟨(⟨#[109]⟩ : ByteArray) ++ s, fun k hk => ?_⟩
      obtain ⟨k, rfl⟩ : ∃ m, k = m + 1 := ⟨k - 1, by omega⟩
      simp only [laws_markText.l0, if_neg c]
      rw [if_pos (by omega)]
theorem text_is (x : Int) (h0 : 1 ≤ x) (h1 : x ≤ 100000) : ∃ t, ∀ k, 100000 < k → laws_markText.f k x = some t := by
  have hz : ((⟨#[]⟩ : ByteArray).size : Int) = 0 := rfl
  obtain ⟨t, ht⟩ := text_loop 100000 x ⟨#[]⟩ (by omega) (by omega) (by omega)
  refine ⟨t, fun k hk => ?_⟩
  unfold laws_markText.f
  rw [if_neg (by omega)]
  exact ht k hk
/-- The text that marks a number. -/
def mtext (x : Int) : ByteArray := (laws_markText.f 100001 x).getD ByteArray.empty
theorem mtext_is (x : Int) (h0 : 1 ≤ x) (h1 : x ≤ 100000) (k : Nat) (hk : 100000 < k) : laws_markText.f k x = some (mtext x) := by
  obtain ⟨t, ht⟩ := text_is x h0 h1
  have e := ht 100001 (by omega)
  unfold mtext
  rw [e, ht k hk]
  rfl
def marksS (a : Int) (n : Nat) : List ByteArray := (List.range n).map (fun j : Nat => mtext (a + (j : Int)))
theorem marksS_length (a : Int) (n : Nat) : (marksS a n).length = n := by simp [marksS]
theorem marksS_get (a : Int) (n j : Nat) : (marksS a n)[j]? = if j < n then some (mtext (a + (j : Int))) else none := by
  unfold marksS
  rw [List.getElem?_map]
  by_cases h : j < n
  · rw [if_pos h, List.getElem?_range h]; rfl
  · rw [if_neg h, List.getElem?_eq_none (by simpa using h)]; rfl
theorem markS_loop (a : Int) (a0 : 1 ≤ a) (a1 : a ≤ 1000) (n : Nat) (hn : n ≤ 1000) (d : Nat) : ∀ (k i : Nat) (x : List ByteArray), x.length = n → i ≤ n → n - i = d → d + 100000 < k → (∀ j, j < i → x[j]? = some (mtext (a + (j : Int)))) → laws_markStringS.l0 k x (a + (i : Int)) (i : Int) = some (a + (n : Int), marksS a n) := by
  induction d with
  | zero =>
    intro k i x hx hi hd hk hj
    obtain ⟨k, rfl⟩ : ∃ m, k = m + 1 := ⟨k - 1, by omega⟩
    have c : ¬ (i : Int) < (x.length : Int) := by omega
    simp only [laws_markStringS.l0, if_neg c]
    have e : i = n := by omega
    subst e
    have : x = marksS a i := List.ext_getElem? (fun j => by
      rw [marksS_get]
      by_cases h : j < i
      · rw [if_pos h]; exact hj j h
      · rw [if_neg h, List.getElem?_eq_none (by omega)])
    rw [this]
  | succ d ih =>
    intro k i x hx hi hd hk hj
    obtain ⟨k, rfl⟩ : ∃ m, k = m + 1 := ⟨k - 1, by omega⟩
    have hlt : i < n := by omega
    have c : (i : Int) < (x.length : Int) := by omega
    have c0 : (0 : Int) ≤ (i : Int) := by omega
    have e1 : wrap64 (a + (i : Int) + 1) = a + ((i + 1 : Nat) : Int) := by unfold wrap64; omega
    have e2 : ((i : Int)).toNat = i := by omega
    simp only [laws_markStringS.l0, if_pos c, mtext_is (a + (i : Int)) (by omega) (by omega) k (by omega), Option.bind_some, if_pos c0]
    rw [e1, wrap_small hlt (by omega), e2]
    apply ih k (i + 1) _ (by simpa using hx) (by omega) (by omega) (by omega)
    intro j hj'
    rw [List.getElem?_set]
    by_cases h : i = j
    · subst h
      rw [if_pos rfl, if_pos (by omega)]
    · rw [if_neg h]
      exact hj j (by omega)
theorem markS_eq (l : List ByteArray) (a : Int) (a0 : 1 ≤ a) (a1 : a ≤ 1000) (k : Nat) (hn : l.length ≤ 1000) (hk : 110000 < k) : laws_markStringS.f k l a = some (a + (l.length : Int), marksS a l.length) := by
  unfold laws_markStringS.f
  have := markS_loop a a0 a1 l.length hn l.length k 0 l rfl (by omega) (by omega) (by omega) (fun j hj => absurd hj (Nat.not_lt_zero _))
  have e : a + ((0 : Nat) : Int) = a := by omega
  rw [e] at this
  exact this
theorem heldS_loop (a : Int) (a0 : 1 ≤ a) (a1 : a ≤ 1000) (n : Nat) (hn : n ≤ 1000) (d : Nat) : ∀ (k i : Nat), i ≤ n → n - i = d → d + 100000 < k → laws_heldStringS.l0 k (marksS a n) (a + (i : Int)) (i : Int) = some (a + (n : Int)) := by
  induction d with
  | zero =>
    intro k i hi hd hk
    obtain ⟨k, rfl⟩ : ∃ m, k = m + 1 := ⟨k - 1, by omega⟩
    have e : i = n := by omega
    subst e
    have c : ¬ (i : Int) < ((marksS a i).length : Int) := by rw [marksS_length]; omega
    simp only [laws_heldStringS.l0, if_neg c]
  | succ d ih =>
    intro k i hi hd hk
    obtain ⟨k, rfl⟩ : ∃ m, k = m + 1 := ⟨k - 1, by omega⟩
    have hlt : i < n := by omega
    have c : (i : Int) < ((marksS a n).length : Int) := by rw [marksS_length]; omega
    have c0 : (0 : Int) ≤ (i : Int) := by omega
    have e1 : wrap64 (a + (i : Int) + 1) = a + ((i + 1 : Nat) : Int) := by unfold wrap64; omega
    have e3 : rdOf ByteArray.empty (marksS a n) (i : Int) = mtext (a + (i : Int)) := by
      rw [rds_get _ i (by rw [marksS_length]; exact hlt)]
      have := marksS_get a n i
      rw [if_pos hlt, List.getElem?_eq_getElem (by rw [marksS_length]; exact hlt)] at this
      exact Option.some.inj this
    simp only [laws_heldStringS.l0, if_pos c, if_pos c0, mtext_is (a + (i : Int)) (by omega) (by omega) k (by omega), Option.bind_some, e3, if_true]
    rw [e1, wrap_small hlt (by omega)]
    exact ih k (i + 1) (by omega) (by omega) (by omega)
theorem heldS_eq (a : Int) (a0 : 1 ≤ a) (a1 : a ≤ 1000) (n : Nat) (k : Nat) (hn : n ≤ 1000) (hk : 110000 < k) : laws_heldStringS.f k (marksS a n) a = some (a + (n : Int)) := by
  unfold laws_heldStringS.f
  have := heldS_loop a a0 a1 n hn n k 0 (by omega) (by omega) (by omega)
  have e : a + ((0 : Nat) : Int) = a := by omega
  rw [e] at this
  exact this
end Go.Proofs.Ytpgiklbaoikogaa.Pure
