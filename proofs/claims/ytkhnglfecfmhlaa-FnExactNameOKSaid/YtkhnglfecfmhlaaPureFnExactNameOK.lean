/- The program's NameOK and the reference's answer alike for every text of at most 1048576 bytes (the law's own guard). -/
import Derived.Test.YtkhnglfecfmhlaaPFnExactNameOKx1
namespace Go.Proofs.Ytkhnglfecfmhlaa.Pure
open Go.RowKit Go.Proofs.Ytkhnglfecfmhlaa.PFnExactNameOK Go.Proofs.YtkhnglfecfmhlaaW.PrintWords Go.Proofs.YtkhnglfecfmhlaaW.PrintLast

theorem letter_same (c : Int) : impl_isLetter.f c = spec_l00Letter.f c := rfl
theorem letter_some (c : Int) : ∃ b, spec_l00Letter.f c = some b := by
  unfold spec_l00Letter.f
  repeat' split
  all_goals exact ⟨_, rfl⟩
theorem digit_eq (c : Int) : spec_l00Digit.f c = some (decide (48 ≤ c) && decide (c ≤ 57)) := by
  unfold spec_l00Digit.f
  by_cases h : c ≥ 48
  · rw [if_pos h]
    have h' : (48 : Int) ≤ c := h
    simp [h']
  · rw [if_neg h]
    have h' : ¬ (48 : Int) ≤ c := h
    simp [h']
theorem within_eq (a b c : Int) : impl_within.f a b c = some (decide (b ≤ a) && decide (a ≤ c)) := by
  unfold impl_within.f
  by_cases h : b ≤ a
  · rw [if_pos h]; simp [h]
  · rw [if_neg h]; simp [h]

theorem loops (s : ByteArray) (hn : s.size ≤ 1048576) (d : Nat) : ∀ (k : Nat) (i : Int), 1 ≤ i → i ≤ s.size → (s.size : Int) - i = d → d < k →
    ∃ b, spec_l00Word.l0 k s i = some b ∧ impl_NameOK.l0 k s (s.size : Int) i = some (b && (decide (1 ≤ (s.size : Int)) && decide ((s.size : Int) ≤ 40))) := by
  induction d with
  | zero =>
    intro k i h0 h1 hd hk
    obtain ⟨k, rfl⟩ : ∃ m, k = m + 1 := ⟨k - 1, by omega⟩
    refine ⟨true, ?_, ?_⟩
    · simp only [spec_l00Word.l0]
      rw [if_neg (by omega)]
    · simp only [impl_NameOK.l0]
      rw [if_neg (by omega), within_eq]
      simp only [Option.bind_some, Bool.true_and]
  | succ d ih =>
    intro k i h0 h1 hd hk
    obtain ⟨k, rfl⟩ : ∃ m, k = m + 1 := ⟨k - 1, by omega⟩
    have hlt : i < (s.size : Int) := by omega
    have hw : wrap64 (i + 1) = i + 1 := by unfold wrap64; omega
    obtain ⟨b, hb⟩ := letter_some (bt s i)
    obtain ⟨r, hs, hi⟩ := ih k (i + 1) (by omega) (by omega) (by omega) (by omega)
    cases b with
    | true =>
      refine ⟨r, ?_, ?_⟩
      · simp only [spec_l00Word.l0]
        rw [if_pos hlt, if_pos (by omega), hb]
        simp only [Option.bind_some, if_true]
        rw [hw]; exact hs
      · simp only [impl_NameOK.l0]
        rw [if_pos hlt, if_pos (by omega), if_pos hlt, letter_same, hb]
        simp only [Option.bind_some, if_true]
        rw [hw]; exact hi
    | false =>
      by_cases hdg : 48 ≤ bt s i ∧ bt s i ≤ 57
      · refine ⟨r, ?_, ?_⟩
        · simp only [spec_l00Word.l0]
          rw [if_pos hlt, if_pos (by omega), hb, digit_eq]
          simp only [Option.bind_some, Bool.false_eq_true, if_false, hdg, decide_true, Bool.and_self, if_true]
          rw [hw]; exact hs
        · simp only [impl_NameOK.l0]
          rw [if_pos hlt, if_pos (by omega), if_pos hlt, letter_same, hb]
          simp only [Option.bind_some, Bool.false_eq_true, if_false]
          rw [if_neg (by omega), if_neg (by omega), if_neg (by omega), hw]; exact hi
      · refine ⟨false, ?_, ?_⟩
        · simp only [spec_l00Word.l0]
          rw [if_pos hlt, if_pos (by omega), hb, digit_eq]
          have hf : (decide (48 ≤ bt s i) && decide (bt s i ≤ 57)) = false := by
            rw [Bool.and_eq_false_iff, decide_eq_false_iff_not, decide_eq_false_iff_not]; omega
          simp only [Option.bind_some, hf, Bool.false_eq_true, if_false]
        · simp only [impl_NameOK.l0]
          rw [if_pos hlt, if_pos (by omega), if_pos hlt, letter_same, hb]
          simp only [Option.bind_some, Bool.false_eq_true, if_false, Bool.false_and]
          rw [if_neg (by omega)]
          by_cases h48 : bt s i < 48
          · rw [if_pos h48]
          · rw [if_neg h48, if_pos (by omega)]

theorem same (s : ByteArray) (hn : s.size ≤ 1048576) : ∃ k b, spec_NameOK.f k s = some b ∧ impl_NameOK.f k s = some b := by
  by_cases h1 : (s.size : Int) < 1
  · refine ⟨1, false, ?_, ?_⟩
    · unfold spec_NameOK.f spec_l00Word.f
      rw [if_pos h1]
      rfl
    · unfold impl_NameOK.f
      simp only [impl_NameOK.l0]
      rw [if_neg (by omega), within_eq]
      have h' : ¬ (1 : Int) ≤ (s.size : Int) := by omega
      simp [h']
  · have h0 : (0 : Int) < (s.size : Int) := by omega
    obtain ⟨K, r, hs, hi⟩ : ∃ K r, spec_l00Word.l0 K s 1 = some r ∧ impl_NameOK.l0 K s (s.size : Int) 1 = some (r && (decide (1 ≤ (s.size : Int)) && decide ((s.size : Int) ≤ 40))) := by
      obtain ⟨r, hs, hi⟩ := loops s hn (s.size - 1) (s.size + 1) 1 (by omega) (by omega) (by omega) (by omega)
      exact ⟨_, r, hs, hi⟩
    obtain ⟨b, hb⟩ := letter_some (bt s 0)
    have e1 : decide (1 ≤ (s.size : Int)) = true := decide_eq_true (by omega)
    have hw : wrap64 (0 + 1) = 1 := by unfold wrap64; rfl
    by_cases h40 : (s.size : Int) > 40
    · refine ⟨K + 1, false, ?_, ?_⟩
      · unfold spec_NameOK.f spec_l00Word.f
        rw [if_neg h1, if_pos h40]
        rfl
      · unfold impl_NameOK.f
        simp only [impl_NameOK.l0]
        rw [if_pos h0, if_pos (by omega), if_pos h0, letter_same, hb]
        have e2 : decide ((s.size : Int) ≤ 40) = false := decide_eq_false (by omega)
        rw [e2] at hi
        cases b with
        | true =>
          simp only [Option.bind_some, if_true]
          rw [hw, hi]; simp
        | false => simp
    · have e2 : decide ((s.size : Int) ≤ 40) = true := decide_eq_true (by omega)
      rw [e1, e2] at hi
      cases b with
      | true =>
        refine ⟨K + 1, r, ?_, ?_⟩
        · unfold spec_NameOK.f spec_l00Word.f
          rw [if_neg h1, if_neg h40, if_pos h0, hb]
          simp only [Option.bind_some, Bool.not_true, spec_l00Word.j0, Bool.false_eq_true, if_false]
          rw [hs]; rfl
        · unfold impl_NameOK.f
          simp only [impl_NameOK.l0]
          rw [if_pos h0, if_pos (by omega), if_pos h0, letter_same, hb]
          simp only [Option.bind_some, if_true]
          rw [hw, hi]; simp
      | false =>
        refine ⟨K + 1, false, ?_, ?_⟩
        · unfold spec_NameOK.f spec_l00Word.f
          rw [if_neg h1, if_neg h40, if_pos h0, hb]
          simp only [Option.bind_some, Bool.not_false, spec_l00Word.j0, if_true]
        · unfold impl_NameOK.f
          simp only [impl_NameOK.l0]
          rw [if_pos h0, if_pos (by omega), if_pos h0, letter_same, hb]
          simp

theorem FnExactNameOK : laws_FnExactNameOK.Pure := by
  intro s hn
  by_cases h : (s.size : Int) > 1048576
  · exact ⟨0, by unfold laws_FnExactNameOK.f; rw [if_pos h]⟩
  · obtain ⟨k, b, h1, h2⟩ := same s (by omega)
    refine ⟨k, ?_⟩
    unfold laws_FnExactNameOK.f
    rw [if_neg h, h1, h2]
    simp

end Go.Proofs.Ytkhnglfecfmhlaa.Pure
