/- The program's KindOf and the reference's give the same for every text of at most 1048576 bytes (the law's own guard). -/
import Derived.Test.YtpgiklbaoikogaaQ2
import Derived.Test.YtpgiklbaoikogaaUnpack
import Derived.Test.YtpgiklbaoikogaaSeal
set_option linter.unusedSimpArgs false
set_option linter.unusedVariables false
namespace Go.Proofs.Ytpgiklbaoikogaa.Pure
open Go.RowKit Go.Proofs.Ytpgiklbaoikogaa.Q Go.Proofs.Ytpgiklbaoikogaa.Hand Go.Proofs.YtpgiklbaoikogaaW.PrintWords Go.Proofs.YtpgiklbaoikogaaW.PrintLast Go.Proofs.YtpgiklbaoikogaaW.PrintMore
theorem size_sealed {a : Int} {l : List Int} {k : Nat} {r : ByteArray} (hn : l.length ≤ 4096) (hk : 100000 < k) (h : spec_l02Seal.f k a l = some r) : r.size = 4 + 4 * l.length := by
  have hp := packed_len l
  unfold spec_l02Seal.f at h
  rw [pack_spec l k hn (by omega)] at h
  simp only [Option.bind_some] at h
  rw [if_pos (by rw [size_strOfNums, size_strOfNums, hp]; simp; omega)] at h
  cases e : spec_l02Sum.f k (strOfNums [a % 256, (l.length : Int) % 256] ++ strOfNums (packed l)) with
  | none => rw [e] at h; cases h
  | some s =>
    rw [e] at h
    simp only [Option.bind_some] at h
    rw [if_pos (by rw [size_strOfNums, size_strOfNums]; simp), if_pos (by rw [ByteArray.size_append, size_strOfNums, size_strOfNums, size_strOfNums, hp]; simp; omega)] at h
    injection h with h
    subst h
    rw [ByteArray.size_append, ByteArray.size_append, size_strOfNums, size_strOfNums, size_strOfNums, hp]
    simp
theorem toList_inj {a b : ByteArray} (h : a.toList = b.toList) : a.size = b.size := by
  have := congrArg List.length h
  rwa [Go.ByteArray.toList_eq, Go.ByteArray.toList_eq, Array.length_toList, Array.length_toList] at this
/-- The kind of a text that opens, or 0 and false. -/
theorem open_same (s : ByteArray) (h4 : 4 ≤ s.size) (hs : s.size ≤ 65536) (k : Nat) (hk : 1500000 < k) : ∃ r, ∃ l1 l2 a, spec_l02Open.f k s (wrap64 (bt s 0)) = some (l1, r) ∧ impl_opened.f k s = some (a, l2, r) ∧ (r = true → a = wrap64 (bt s 0)) := by
  have hv : ∀ a b c, impl_within.f a b c = spec_l01In.f a b c := fun _ _ _ => rfl
  obtain ⟨k, rfl⟩ : ∃ m, k = m + 1 := ⟨k - 1, by omega⟩
  have ht : (s.extract 4 s.size).size = s.size - 4 := by rw [ByteArray.size_extract]; omega
  have hb := bt_range s 0
  have c1 : ¬ (s.size : Int) < 4 := by omega
  have c2 : (0 : Int) < (s.size : Int) := by omega
  have c3 : (4 : Int) ≤ (s.size : Int) := by omega
  have hu := unpack_impl (s.extract 4 s.size) (by omega) k (by omega)
  unfold spec_l02Open.f impl_opened.f spec_l02Kind.f impl_isKind.f
  simp only [if_neg c1, if_pos c2, if_true, hv, InR_eq, Option.bind_some, spec_l02Open.j0, impl_opened.j0, if_pos c3]
  generalize hq : (decide (1 ≤ wrap64 (bt s 0)) && decide (wrap64 (bt s 0) ≤ 9)) = q
  by_cases h80 : (s.size : Int) > 80
  · rw [if_pos h80]
    cases q with
    | false => exact ⟨false, [], [], 0, by simp, by simp, by simp⟩
    | true =>
      refine ⟨false, [], [], 0, ?_, by simp, by simp⟩
      simp only [Bool.not_true, Bool.false_eq_true, if_false]
      by_cases hm : ((s.extract 4 s.size).size : Int) % 4 = 0
      · obtain ⟨m, hm'⟩ : ∃ m, (s.extract 4 s.size).size = 4 * m := ⟨(s.extract 4 s.size).size / 4, by omega⟩
        rw [unpack_spec _ m hm' (by omega) k (by omega)]
        have hb1 : intsB (vals (s.extract 4 s.size) m) = false := by
          cases hb : intsB (vals (s.extract 4 s.size) m) with
          | false => rfl
          | true => have := ints_len hb; rw [vals_length] at this; omega
        simp [hb1]
      · rw [unpack_spec_odd _ hm k]
        simp
  · rw [if_neg h80]
    cases q with
    | false => exact ⟨false, [], [], 0, by simp, by simp, by simp⟩
    | true =>
      simp only [Bool.not_true, Bool.false_eq_true, if_false]
      by_cases hm : ((s.extract 4 s.size).size : Int) % 4 = 0
      · obtain ⟨m, hm'⟩ : ∃ m, (s.extract 4 s.size).size = 4 * m := ⟨(s.extract 4 s.size).size / 4, by omega⟩
        rw [if_pos hm] at hu
        rw [unpack_spec _ m hm' (by omega) k (by omega), hu]
        simp only [Option.bind_some]
        by_cases h16 : m ≤ 16
        · have e : most (s.extract 4 s.size) = m := by unfold most; omega
          rw [e]
          cases hb : intsB (vals (s.extract 4 s.size) m) with
          | false => exact ⟨false, [], _, _, by simp, rfl, by simp⟩
          | true =>
            obtain ⟨r, e1, e2⟩ := seal_same (wrap64 (bt s 0)) (vals (s.extract 4 s.size) m) k (by rw [vals_length]; omega) (by omega)
            simp only [if_true, e1, e2, Option.bind_some]
            by_cases hr : r.toList = s.toList
            · exact ⟨true, vals (s.extract 4 s.size) m, vals (s.extract 4 s.size) m, wrap64 (bt s 0), by rw [if_pos hr], by simp [hr], fun _ => rfl⟩
            · exact ⟨false, [], vals (s.extract 4 s.size) m, wrap64 (bt s 0), by rw [if_neg hr], by simp [hr], fun h => by cases h⟩
        · have hb1 : intsB (vals (s.extract 4 s.size) m) = false := by
            cases hb : intsB (vals (s.extract 4 s.size) m) with
            | false => rfl
            | true => have := ints_len hb; rw [vals_length] at this; omega
          have hb2 : intsB (vals (s.extract 4 s.size) (most (s.extract 4 s.size))) = false := by
            have e : most (s.extract 4 s.size) = 17 := by unfold most; omega
            rw [e]
            cases hb : intsB (vals (s.extract 4 s.size) 17) with
            | false => rfl
            | true => have := ints_len hb; rw [vals_length] at this; omega
          rw [hb1, hb2]
          exact ⟨false, [], _, _, by simp, rfl, by simp⟩
      · rw [if_neg hm] at hu
        rw [unpack_spec_odd _ hm k, hu]
        exact ⟨false, [], _, _, by simp, rfl, by simp⟩
theorem kind_same (s : ByteArray) (hs : s.size ≤ 1048576) (k : Nat) (hk : 1500000 < k) : ∃ r, spec_KindOf.f k s = some r ∧ impl_KindOf.f k s = some r := by
  obtain ⟨k', rfl⟩ : ∃ m, k = m + 1 := ⟨k - 1, by omega⟩
  unfold spec_KindOf.f impl_KindOf.f impl_isLongText.f
  simp only [Option.bind_some, firsts2]
  by_cases h : (s.size : Int) > 65536
  · refine ⟨(0, 2), by rw [if_pos h], ?_⟩
    have e : ∃ a l r, impl_opened.f (k' + 1) s = some (a, l, r) := by
      have c1 : ¬ (s.size : Int) < 4 := by omega
      have c2 : (s.size : Int) > 80 := by omega
      unfold impl_opened.f
      rw [if_neg c1, if_pos c2]
      exact ⟨0, [], false, rfl⟩
    obtain ⟨a, l, r, e⟩ := e
    rw [e]
    simp [h]
  rw [if_neg h]
  by_cases h4 : (s.size : Int) < 4
  · have e : impl_opened.f (k' + 1) s = some (0, [], false) := by
      unfold impl_opened.f
      rw [if_pos h4]
      rfl
    refine ⟨(0, 3), ?_, by rw [e]; simp [h]⟩
    by_cases h0 : s.toList = ([] : List UInt8)
    · rw [if_pos h0]
    · have hz : 0 < (s.size : Int) := by
        by_cases hz : s.size = 0
        · have := toList_inj (a := s) (b := ⟨#[]⟩)
          exact absurd (by
            rw [Go.ByteArray.toList_eq]
            have : s.data.toList.length = 0 := by rw [Array.length_toList]; exact hz
            exact List.eq_nil_of_length_eq_zero this) h0
        · omega
      have e2 : spec_l02Open.f (k' + 1) s (wrap64 (bt s 0)) = some ([], false) := by
        unfold spec_l02Open.f
        rw [if_pos h4]
        rfl
      rw [if_neg h0, if_pos hz, e2]
      rfl
  · have h0 : ¬ s.toList = ([] : List UInt8) := by
      intro h0
      have := toList_inj (a := s) (b := ⟨#[]⟩) (h0.trans (by rw [Go.ByteArray.toList_eq]))
      have h5 : (⟨#[]⟩ : ByteArray).size = 0 := rfl
      omega
    have hz : 0 < (s.size : Int) := by omega
    obtain ⟨r, l1, l2, a, e1, e2, e3⟩ := open_same s (by omega) (by omega) (k' + 1) hk
    rw [if_neg h0, if_pos hz, e1, e2]
    cases r with
    | false => exact ⟨(0, 3), rfl, by simp [h]⟩
    | true => exact ⟨(wrap64 (bt s 0), 0), rfl, by simp [h, e3 rfl]⟩
theorem FnExactKindOf (a0 : ByteArray) (_ : a0.size ≤ 140737488351232) : ∃ k, laws_FnExactKindOf.f k a0 = some true := by
  by_cases h : (a0.size : Int) > 1048576
  · exact ⟨0, by unfold laws_FnExactKindOf.f; rw [if_pos h]⟩
  · refine ⟨2000000, ?_⟩
    obtain ⟨r, h1, h2⟩ := kind_same a0 (by omega) 2000000 (by omega)
    unfold laws_FnExactKindOf.f
    rw [if_neg h]
    simp only [h1, h2, Option.bind_some, if_true]
end Go.Proofs.Ytpgiklbaoikogaa.Pure
